/- Own work: a layer over the kit: plain data,a walk over it,its soundness. -/
import Derived.Test.YtfoklncmfoogcaaGreatDoorSx9
import Derived.Test.YtfoklncmfoogcaaGreatDoorSx8
import Derived.Test.YtfoklncmfoogcaaGreatDoorSx6
import Derived.Test.YtfoklncmfoogcaaGreatDoorSx7
set_option linter.unusedSectionVars false
set_option linter.unusedVariables false
set_option linter.unusedSimpArgs false
set_option linter.deprecated false
/- RULES,PLAIN: sizes. -/
namespace Go.Sx
def fewC (N:Int) (l:List Lt):Prop:=(l.length:Int)<=N/\(∀ x∈l,x.few N)/\((withinT l).length:Int)<=N/\((Tm.vsL (withinT l)).length:Int)<=N
def fewT (N:Int) (l:List Tm):Prop:=(l.length:Int)<=N/\((Tm.vsL l).length:Int)<=N
def fewB (N:Int) (x:Bo):Prop:=fewC N [x.l]/\fewC N x.c/\(x.b.vs.length:Int)<=N/\(x.e.length:Int)<=N/\ ∀ y∈x.e,fewT N y.t/\fewC N y.c
structure fewR (N:Int) (r:Ru):Prop where
 t4:(r.lo.vs.length:Int)<=N/\(r.up.vs.length:Int)<=N/\(r.w.vs.length:Int)<=N/\(r.lv.vs.length:Int)<=N
 tt:fewT N r.t
 hl:(r.h.length:Int)<=N
 h: ∀ x∈r.h,fewT N x.a/\fewC N x.c
 bl:(r.b.length:Int)<=N
 b: ∀ x∈r.b,fewB N x
end Go.Sx

/- RULES ARE READ; the sizes' bounds. -/
namespace Go.Sx
open Go.RowKit Go.Deep Go.ChangeShapes Go.WideShapes
structure El.wf (B:Nat) (x:El):Prop where
 tl:x.t.length<=B
 t:Tm.wfL B x.t
 cl:x.c.length<=B
 c: ∀ y∈x.c,y.wf B
structure He.wf (B:Nat) (x:He):Prop where
 al:x.a.length<=B
 a:Tm.wfL B x.a
 cl:x.c.length<=B
 c: ∀ y∈x.c,y.wf B
structure Bo.wf (B:Nat) (x:Bo):Prop where
 l:x.l.wf B
 cl:x.c.length<=B
 c: ∀ y∈x.c,y.wf B
 el:x.e.length<=B
 e: ∀ y∈x.e,y.wf B
 b:x.b.wf B
structure Ru.wf (B:Nat) (x:Ru):Prop where
 lo:x.lo.wf B
 up:x.up.wf B
 w:x.w.wf B
 lv:x.lv.wf B
 tl:x.t.length<=B
 t:Tm.wfL B x.t
 hl:x.h.length<=B
 h: ∀ y∈x.h,y.wf B
 bl:x.b.length<=B
 b: ∀ y∈x.b,y.wf B
variable {P:Program}
section
variable [Globs] [Codes]
end
end Go.Sx

/- RULES,PLAIN: all names of a rule; how many unsafe ones there are,how long they are. -/
namespace Go.Sx
def elT (y:El):List Tm:=y.t++withinT y.c
def heT (y:He):List Tm:=y.a++withinT y.c
def boT (b:Bo):List Tm:=withinT [b.l]++(withinT b.c++(b.b::b.e.flatMap elT))
def allT (r:Ru):List Tm:=[r.lo,r.up,r.w,r.lv]++(r.t++(r.h.flatMap heT++r.b.flatMap boT))
end Go.Sx

/- RULES,PLAIN: another order of the body,of the heads,of the conditions. -/
namespace Go.Sx
def revE (e:El):El:={ e with c:=e.c.reverse }
def revB (b:Bo):Bo:={ b with c:=b.c.reverse,e:=b.e.reverse.map revE }
def revH (h:He):He:={ h with c:=h.c.reverse }
def rotB (l:List Bo) (k:Nat):List Bo:=l.drop k++l.take k
def Ru.turn (r:Ru) (k:Nat):Ru:={ r with b:=(rotB r.b k).map revB,h:=r.h.reverse.map revH }
end Go.Sx

/- A ROW THAT IS HANDED BACK,AS PLAIN DATA. -/
namespace Go.Sx
open Go.RowKit
variable [Globs] [Codes]
variable {P:Program}
end Go.Sx

/- A row of our own that a function hands back is plain data. -/
namespace Go.Sx
open Go.RowKit
variable [Globs] [Codes]
variable {P:Program}
theorem FnOK.freezeG {f:FuncId} {args:List D} {sz:Nat} {e:TypeId} {es:List (List D)} (h:FnOK P f args (.own sz e es)):FnOK P f args (.slice es []):=by
 intro φ hh w vs h1 h2 h3 h4 h5
 refine (h φ hh w vs h1 h2 h3 h4 h5).mono ?_
 rintro e' w' ⟨v,φ',rfl,hR,rest⟩
 refine⟨v,φ',rfl, ?_,rest⟩
 intro h'
 have hR0:ObR (w.heap.size<= ·) φ' noH w' v (.arr true sz e es):=hR
 have hR1:ObR (w.heap.size<= ·) φ' (fun _=>v) w' v (.arr true sz e es):=hR0
 have hl:live v=true:=by
  obtain⟨_,_,xs,hown,_⟩:=hR0
  rcases hown.2 with ⟨rfl,_⟩ | ⟨g,cap,cur,rfl,_⟩
  ·rfl
  ·rfl
 have r0:RV φ' (fun _=>v) v (.vec 0):=RV.vec (φ:=φ') (h:=fun _=>v) 0 hl
 have r1:=dvt_sound (obs:=lk [(0,Ob.arr true sz e es)]) (h:=fun _=>v) (w:=w') (own:=(w.heap.size<= ·)) (fun i o hi _=>by
  simp only[lk] at hi
  split at hi
  ·cases hi; exact hR1
  ·cases hi) r0
 have e1:dvt (lk [(0,Ob.arr true sz e es)]) (.vec 0)= .slice es []:=rfl
 rw[e1] at r1
 cases r1 with
 | pure r=>exact .pure r
end Go.Sx

/- A PANIC IN A ROUND OF A RANGE OVER A FUNCTION. Where the body panics,no waiting call lies on the round's frame: so it catches nothing. -/
namespace Go.Sx
open Go.RowKit
variable [Globs] [Codes]

def notCall:List Item->Bool
 | .call .. :: _=>false
 | _=>true
theorem notCall_catches {P:Program} {fr:Frame} (h:notCall fr.todo=true):fr.catches P=false:=by
 unfold Frame.catches
 split
 ·rename_i h1 h2
  rw[h2] at h
  cases h
 ·rfl

def ArrivesP (I:Machine->Prop) (P:Program) (m:Machine) (b:Frame) (k:List Item) (cs:List Frame):Exit->Act->World->Prop
 | .panic chain,a,w=> ∃ todo,notCall todo=true/\StepsIn I P m (lone { b.atR a todo with mode:= .panicking chain } cs w)
 | e,a,w=>ArrivesIn I P m b k cs e a w

theorem ArrivesP.of_steps {I:Machine->Prop} {P:Program} {m m₁:Machine} {b:Frame} {k:List Item} {cs:List Frame} {e:Exit} {a:Act} {w:World}
  (h:StepsIn I P m m₁) (h':ArrivesP I P m₁ b k cs e a w):ArrivesP I P m b k cs e a w:=by
 cases e with
 | panic chain=>obtain⟨todo,hn,hs⟩:=h'; exact⟨todo,hn,h.trans hs⟩
 | normal=>exact ArrivesIn.of_steps (e:= .normal) h h'
 | exit id=>exact ArrivesIn.of_steps (e:= .exit id) h h'
 | goto l=>exact ArrivesIn.of_steps (e:= .goto l) h h'
 | ret=>exact ArrivesIn.of_steps (k:=k) (e:= .ret) h h'
 | outgrown=>exact ArrivesIn.of_steps (I:=I) (P:=P) (m:=m) (m₁:=m₁) (b:=b) (k:=k) (cs:=cs) (e:= .outgrown) (a:=a) (w:=w) h h'

theorem ArrivesP.pass {I:Machine->Prop} {P:Program} {m:Machine} {b:Frame} {x:Item} {k:List Item} {cs:List Frame} {e:Exit} {a:Act} {w:World}
  (hx:x.plain=true) (he:e≠ .normal) (h:ArrivesP I P m b (x::k) cs e a w):ArrivesP I P m b k cs e a w:=by
 cases e with
 | panic chain=>exact h
 | normal=>exact absurd rfl he
 | exit id=>exact ArrivesIn.pass (e:= .exit id) hx (fun _ _=> .inl (by simp)) h
 | goto l=>exact ArrivesIn.pass (e:= .goto l) hx (fun _ _=> .inl (by simp)) h
 | ret=>exact ArrivesIn.pass (k:=k) (e:= .ret) hx (fun _ _=> .inl (by simp)) h
 | outgrown=>exact h

def wpP (F:Fence) (n:Nat) (P:Program) (c:Code) (Q:Exit->Act->World->Prop) (a:Act) (w:World):Prop :=
 ∀ (b:Frame) (k:List Item) (cs:List Frame),b.roundOf=F.round->F.fn b.fn->F.room (cs.length+1+n) →
  ∃ e a' w',Q e a' w'/\ArrivesP (Machine.fenced P F) P (lone (b.atR a (.code c::k)) cs w) b k cs e a' w'

section
variable {P:Program} {F:Fence} {n:Nat} {Q:Exit->Act->World->Prop} {a:Act} {w:World}

theorem wpP_of {c:Code} {Q':Exit->Act->World->Prop} (h:c.wpIn F n P Q a w) (hq: ∀ e a w,Q e a w->(∀ ch,e≠ .panic ch)/\Q' e a w):wpP F n P c Q' a w :=
 fun b k cs hro hb hr=>by
  obtain⟨e,a',w',q,r⟩:=h b k cs hro hb hr
  obtain⟨hp,q'⟩:=hq e a' w' q
  refine⟨e,a',w',q', ?_⟩
  cases e with
  | panic ch=>exact absurd rfl (hp ch)
  | normal=>exact r
  | exit id=>exact r
  | goto l=>exact r
  | ret=>exact r
  | outgrown=>exact r

theorem wpP_mono {c:Code} {Q':Exit->Act->World->Prop} (h:wpP F n P c Q a w) (hq: ∀ e a w,Q e a w->Q' e a w):wpP F n P c Q' a w :=
 fun b k cs hro hb hr=>let ⟨e,a',w',q,r⟩:=h b k cs hro hb hr; ⟨e,a',w',hq _ _ _ q,r⟩

theorem wpP_seq {x y:Code} (h:wpP F n P x (Exit.then (wpP F n P y Q) Q) a w):wpP F n P (Code.seq x y) Q a w:=by
 intro b k cs hro hb hr
 have h0:(lone (b.atR a (.code (.seq x y)::k)) cs w).fenced P F:=fenced_calm hb hr rfl
 obtain⟨e,a₁,w₁,hq,harr⟩:=h b (.code y::k) cs hro hb hr
 cases e with
 | normal =>
  obtain⟨e₂,a₂,w₂,hq₂,harr₂⟩:=hq b k cs hro hb hr
  exact⟨e₂,a₂,w₂,hq₂,.of_steps (.head h0 stepR_seq harr) harr₂⟩
 | exit id=>exact⟨_,a₁,w₁,hq,.of_steps (.one h0 stepR_seq) (.pass (x:= .code y) rfl (by simp) harr)⟩
 | goto l=>exact⟨_,a₁,w₁,hq,.of_steps (.one h0 stepR_seq) (.pass (x:= .code y) rfl (by simp) harr)⟩
 | ret=>exact⟨_,a₁,w₁,hq,.of_steps (.one h0 stepR_seq) (.pass (x:= .code y) rfl (by simp) harr)⟩
 | panic ch=>exact⟨_,a₁,w₁,hq,.of_steps (.one h0 stepR_seq) (.pass (x:= .code y) rfl (by simp) harr)⟩
 | outgrown=>exact⟨_,a₁,w₁,hq,.of_steps (.one h0 stepR_seq) (.pass (x:= .code y) rfl (by simp) harr)⟩

theorem wpP_cond {c:Operand} {x y:Code} {t:Bool} (hc:a.eval c= .bool t) (h:wpP F n P (if t then x else y) Q a w):wpP F n P (Code.cond c x y) Q a w :=
 fun b k cs hro hb hr=>let ⟨e,a',w',q,r⟩:=h b k cs hro hb hr; ⟨e,a',w',q,.of_steps (.one (fenced_calm hb hr rfl) (stepR_cond hc)) r⟩

theorem wpP_block {id:Nat} {c:Code} (h:wpP F n P c (Exit.inBlock id Q) a w):wpP F n P (Code.block id c) Q a w:=by
 intro b k cs hro hb hr
 have h0:(lone (b.atR a (.code (.block id c)::k)) cs w).fenced P F:=fenced_calm hb hr rfl
 obtain⟨e,a₁,w₁,hq,harr⟩:=h b (.inBlock id::k) cs hro hb hr
 cases e with
 | normal=>exact⟨.normal,a₁,w₁,hq,.head h0 stepR_block (StepsIn.trans harr (.one (fenced_calm hb hr rfl) stepR_inBlock))⟩
 | exit id' =>
  by_cases hid:id'=id
  ·simp only[Exit.inBlock,hid,if_true] at hq
   exact⟨.normal,a₁,w₁,hq,.head h0 stepR_block (harr.1 k (by simp[exitTo,hid]))⟩
  ·simp only[Exit.inBlock,hid,if_false] at hq
   have this:(id == id')=false:=by simp; exact fun h=>hid h.symm
   have hx:exitTo id' (.inBlock id::k)=exitTo id' k:=by simp[exitTo,this]
   exact⟨.exit id',a₁,w₁,hq,fun k' hk=> .head h0 stepR_block (harr.1 k' (by rw[hx]; exact hk)),
    fun hr' hk=>let ⟨k₁,h1,h2⟩:=harr.2 hr' (by rw[hx]; exact hk); ⟨k₁,h1,.head h0 stepR_block h2⟩⟩
 | goto l =>
  have hx:gotoIn l (.inBlock id::k)=gotoIn l k:=by simp[gotoIn]
  exact⟨_,a₁,w₁,hq,fun k' hk=> .head h0 stepR_block (harr.1 k' (by rw[hx]; exact hk)),
   fun hr' hk=>let ⟨k₁,h1,h2⟩:=harr.2 hr' (by rw[hx]; exact hk); ⟨k₁,h1,.head h0 stepR_block h2⟩⟩
 | ret=>exact⟨_,a₁,w₁,hq,.of_steps (.one h0 stepR_block) harr⟩
 | panic ch=>exact⟨_,a₁,w₁,hq,.of_steps (.one h0 stepR_block) harr⟩
 | outgrown=>exact⟨_,a₁,w₁,hq,.of_steps (.one h0 stepR_block) harr⟩

def OpEnd (P:Program) (F:Fence) (Q:Exit->Act->World->Prop) (next:Act->World->Prop) (M:Machine) (ops:Array Oper) (i:Nat) (rest:List Nat) (a:Act) (b:Frame) (k:List Item) (cs:List Frame):Prop :=
 (∃ a' w',next a' w'/\StepsIn (Machine.fenced P F) P M (lone (b.atR a' (.inRegion ops rest::k)) cs w')) ∨
 (∃ ch w',Q (.panic ch) a w'/\StepsIn (Machine.fenced P F) P M (lone { b.atR a (.inRegion ops (i::rest)::k) with mode:= .panicking ch } cs w')) ∨
 (LetsOut Q/\Outgrown P M)

theorem op_end {ops:Array Oper} {i:Nat} {rest:List Nat} {o:Oper} {next:Act->World->Prop} (ho:ops[i]? = some o) (hw:Region.wanted o (yielded ops a.tmps)=true) (h:o.wpIn F n P a w next Q)
  {b:Frame} {k:List Item} {cs:List Frame} (hro:b.roundOf=F.round) (hb:F.fn b.fn) (hr:F.room (cs.length+1+n)):OpEnd P F Q next (lone (b.atR a (.inRegion ops (i::rest)::k)) cs w) ops i rest a b k cs:=by
 have hI:=fenced_oper (P:=P) (rest:=rest) (k:=k) hb hr ho h.1
 have hup:=h.2
 have hg:=stepGR_op (P:=P) (b:=b) (k:=k) (cs:=cs) (w:=w) (rest:=rest) ho hw
 rw[hro] at hg
 have put: ∀ v,(b.atR a (.inRegion ops (i::rest)::k)).finish v=b.atR (a.put o.dst v) (.inRegion ops rest::k):=fun v=>by rw[Frame.finish_atR,ho]; rfl
 -- at once
 have now: ∀ {fr:Frame} {w':World},(stepG.apply P true (b.atR a (.inRegion ops (i::rest)::k)) cs none (o.semAt F.round a.eval) w).bare= .go { frame:=fr,callers:=cs,status:= .running,dying:=none } w' →
   StepsIn (Machine.fenced P F) P (lone (b.atR a (.inRegion ops (i::rest)::k)) cs w) (lone fr cs w'):=fun e=> .one hI (step_lone_go (by rw[hg]; exact e))
 -- by a frame of its own
 have deep: ∀ {fr:Frame} {w':World},(stepG.apply P true (b.atR a (.inRegion ops (i::rest)::k)) cs none (o.semAt F.round a.eval) w).bare= .go { frame:=fr,callers:=b.atR a (.inRegion ops (i::rest)::k)::cs,status:= .running,dying:=none } w' →
   step P (lone (b.atR a (.inRegion ops (i::rest)::k)) cs w)= .next (lone fr (b.atR a (.inRegion ops (i::rest)::k)::cs) w'):=fun e=>step_lone_go (by rw[hg]; exact e)
 unfold Oper.uponIn at hup
 split at hup
 case _ v w' e=>exact .inl ⟨_,_,hup,now (by rw[<- put]; simp[stepG.apply,e])⟩
 case _ w' e=>exact .inl ⟨_,_,hup,now (by rw[<- put]; simp[stepG.apply,e])⟩
 case _ d w' e =>
  refine .inl ⟨_,_,hup,now ?_⟩
  have hf:=Frame.finish_atR b { a with defers:=d::a.defers } ops i rest k undef
  rw[ho] at hf
  simp only[stepG.apply,Sem.runT_eq,e,GStep.bare_after]
  exact congrArg (fun fr=>GStep.go { frame:=fr,callers:=cs,status:= .running,dying:=none } w') hf
 case _ f args w' e =>
  have s1:=deep (fr:=Frame.enter P f args .normal) (w':=w') (by simp[stepG.apply,e,Frame.atR])
  obtain⟨end_,w2,fr,hR,hs,hfn,hlv⟩:=hup.2.2 (b.atR a (.inRegion ops (i::rest)::k)::cs) (Fence.room_enter hr hup.1)
  have hroom:=Fence.room_enter (c:=cs.length) hr hup.1
  cases end_ with
  | outgrown=>exact .inr (.inr ⟨hR,Outgrown.of_steps (.one s1) hs⟩)
  | returned v=>exact .inl ⟨_,_,hR,.head hI s1 (StepsIn.trans hs (.one (fenced_leaving (hfn ▸ hup.2.1) hroom hlv) (by rw[<- put]; exact step_leave_returned hlv)))⟩
  | panicked ch=>exact .inr (.inl ⟨ch,_,hR,.head hI s1 (StepsIn.trans hs (.one (fenced_leaving (hfn ▸ hup.2.1) hroom hlv) (by rw[<- Frame.raise_atR]; exact step_leave_panicked hlv)))⟩)
 case _ row args w' e =>
  have s1:=deep (fr:=Frame.ofRow P row args .normal) (w':=w') (by simp[stepG.apply,e,Frame.atR])
  obtain⟨v,w2,hR,hs⟩:=hup.2 (b.atR a (.inRegion ops (i::rest)::k)) cs (Fence.room_enter hr hup.1)
  exact .inl ⟨_,_,hR,.head hI s1 (by rw[<- put]; exact hs)⟩
 case _ l f tmps asg body w' e =>
  have s1:=deep (fr:=Frame.round l f tmps asg body .normal) (w':=w') (by simp[stepG.apply,e,Frame.atR])
  obtain⟨end_,w2,hR,hs⟩:=hup.2.2 (b.atR a (.inRegion ops (i::rest)::k)) cs (Fence.room_enter hr hup.1)
  cases end_ with
  | outgrown=>exact .inr (.inr ⟨hR,Outgrown.of_steps (.one s1) hs⟩)
  | returned v=>exact .inl ⟨_,_,hR,.head hI s1 (by rw[<- put]; exact hs)⟩
  | panicked ch=>exact .inr (.inl ⟨ch,_,hR,.head hI s1 (by rw[<- Frame.raise_atR]; exact hs)⟩)
 case _ v w' e=>exact .inr (.inl ⟨_,_,hup,now (by rw[<- Frame.raise_atR]; simp[stepG.apply,e])⟩)
 case _=>exact hup.elim

theorem ops_end {ops:Array Oper} {b:Frame} {k:List Item} {cs:List Frame} (hro:b.roundOf=F.round) (hb:F.fn b.fn) (hr:F.room (cs.length+1+n)): ∀ (l:List Nat) (a:Act) (w:World),wpOpsIn F n P ops Q l a w →
  ∃ e a' w',Q e a' w'/\ArrivesP (Machine.fenced P F) P (lone (b.atR a (.inRegion ops l::k)) cs w) b k cs e a' w'
 | [],a,w,h=>⟨.normal,a,w,h,.one (fenced_calm hb hr rfl) stepR_region_end⟩
 | i::rest,a,w,h=>by
  simp only[wpOpsIn] at h
  split at h
  ·rename_i ho
   obtain⟨e,a',w',hq,har⟩:=ops_end hro hb hr rest a w h
   have hs:=stepR_op_skip (P:=P) (b:=b) (a:=a) (k:=k) (cs:=cs) (w:=w) (ops:=ops) (i:=i) (rest:=rest) (by simp[ho])
   simp only[ho,Option.bind_none,Act.put] at hs
   exact⟨e,a',w',hq,.of_steps (.one (fenced_noOper hb hr ho) hs) har⟩
  ·rename_i o ho
   split at h
   ·rename_i hw
    rcases op_end (rest:=rest) ho hw h hro hb hr with ⟨a',w',hn,hs⟩ | ⟨ch,w',hq,hs⟩ | ⟨⟨a',w',hq⟩,ho⟩
    ·obtain⟨e,a2,w2,hq,har⟩:=ops_end hro hb hr rest a' w' hn
     exact⟨e,a2,w2,hq,.of_steps hs har⟩
    ·exact⟨.panic ch,a,w',hq,_,rfl,hs⟩
    ·exact⟨.outgrown,a',w',hq,.inr ho⟩
   ·rename_i hw
    obtain⟨e,a',w',hq,har⟩:=ops_end hro hb hr rest _ w h.2
    have hs:=stepR_op_skip (P:=P) (b:=b) (a:=a) (k:=k) (cs:=cs) (w:=w) (ops:=ops) (i:=i) (rest:=rest) (by simp[ho]; simpa using hw)
    simp only[ho,Option.bind_some] at hs
    exact⟨e,a',w',hq,.of_steps (.one (fenced_oper hb hr ho h.1) hs) har⟩

theorem wpP_region {id:Nat} {ops:Array Oper} (h:wpListIn F n P ops Q ops.toList a w):wpP F n P (Code.region id ops false) Q a w:=fun b k cs hro hb hr=>by
 have h':wpOpsIn F n P ops Q (List.range ops.size) a w:=by
  rw[List.range_eq_range',<- Array.length_toList,wpOpsIn_eq_wpListIn ops.toList 0 (by simp)]; exact h
 obtain⟨e,a',w',q,r⟩:=ops_end hro hb hr (List.range ops.size) a w h'
 exact⟨e,a',w',q,.of_steps (.one (fenced_calm hb hr rfl) stepR_region) r⟩
end

section
variable {P:Program} {F:Fence} {n:Nat}
def roundJ (P:Program) (l:Nat) (R:Ending->World->Prop):Exit->Act->World->Prop
 | .panic ch,a,w=> ∃ ms w1,a.defers=ms.map mkd/\takes P ms w w1/\R (.panicked ch) w1
 | e,a,w=>roundPost P l R e a w

theorem step_round_panic {fr c:Frame} {cs:List Frame} {w:World} {ch:List PanicEntry} (hm:fr.mode= .panicking ch) (hd:fr.defers=[]) (hc:fr.catches P=false) :
  step P (lone fr (c::cs) w)= .next (lone (c.raise ch) cs w) :=
 step_lone_go (by simp[stepG,unwind,hm,hd,hc])

theorem takes_app: ∀ {ms1 ms2:List Nat} {w w1 w2:World},takes P ms1 w w1->takes P ms2 w1 w2->takes P (ms1++ms2) w w2
 | [],_,_,_,_,h1,h2=>by cases h1; exact h2
 | _::_,_,_,_,_,⟨w',h,h1⟩,h2=>⟨w',h,takes_app h1 h2⟩

theorem roundJ_of {l:Nat} {f:FuncId} {tmps:Array Value} {asg body:Code} {w:World} {R:Ending->World->Prop} (hF:F.fn f)
  (h:asg.wpIn (F.inRound l) n P (Exit.then (fun a₁ w₁=> ∃ w₂,(Instr.beginRound l).run P w₁= .ok () w₂/\wpP (F.inRound l) n P body (roundJ P l R) a₁ w₂) (fun _ _ _=>False)) { tmps:=tmps,defers:=[] } w) :
  RoundIn F n P l f tmps asg body w R:=by
 refine⟨hF,fun c cs hr=> ?_⟩
 let b:Frame:={ (default:Frame) with fn:=f,kind:= .normal,roundOf:=some l }
 have hb0:Frame.round l f tmps asg body .normal=b.atR { tmps:=tmps,defers:=[] } [.code asg,.beginRound,.code body]:=by
  simp[Frame.round,Frame.atR,b]
 have hr':(F.inRound l).room ((c::cs).length+1+n):=hr
 have hF':(F.inRound l).fn b.fn:=hF
 obtain⟨e,a₁,w₁,hq,harr⟩:=h b [.beginRound,.code body] (c::cs) rfl hF' hr'
 rw[<- hb0] at harr
 cases e <;> try exact hq.elim
 obtain⟨w₂,hbr,hbody⟩:=hq
 have s1:StepsIn (Machine.fenced P (F.inRound l)) P (lone (b.atR a₁ [.beginRound,.code body]) (c::cs) w₁) (lone (b.atR a₁ [.code body]) (c::cs) w₂) :=
  .one (fenced_calm (fr:=b.atR a₁ [.beginRound,.code body]) hF' hr' rfl) (stepR_beginRound rfl hbr)
 obtain⟨e₂,a₂,w₃,hq₂,har₂⟩:=hbody b [] (c::cs) rfl hF' hr'
 have s2:=StepsIn.trans harr s1
 cases e₂ with
 | normal =>
  obtain⟨v,w₄,hend,hR⟩:=hq₂
  exact⟨.returned v,w₄,hR,s2.trans (StepsIn.trans har₂ (.one (fenced_calm (fr:=b.atR a₂ []) hF' hr' rfl) (stepR_round_end rfl rfl hend)))⟩
 | ret =>
  obtain⟨v,w₄,hend,hR⟩:=hq₂
  obtain⟨k₁,hs⟩:=har₂.2 rfl
  exact⟨.returned v,w₄,hR,s2.trans (hs.trans (.one (fenced_calm (fr:=b.atR a₂ (.code .ret::k₁)) hF' hr' rfl) (stepR_round_ret rfl rfl hend)))⟩
 | exit id =>
  obtain⟨v,w₄,hend,hR⟩:=hq₂
  obtain⟨k₁,hk,hs⟩:=har₂.2 rfl rfl
  exact⟨.returned v,w₄,hR,s2.trans (hs.trans (.one (fenced_calm (fr:=b.atR a₂ (.code (.exit id)::k₁)) hF' hr' rfl) (stepR_round_exit rfl rfl hk hend)))⟩
 | goto t =>
  obtain⟨v,w₄,hend,hR⟩:=hq₂
  obtain⟨k₁,hk,hs⟩:=har₂.2 rfl rfl
  exact⟨.returned v,w₄,hR,s2.trans (hs.trans (.one (fenced_calm (fr:=b.atR a₂ (.code (.goto t)::k₁)) hF' hr' rfl) (stepR_round_goto rfl rfl hk hend)))⟩
 | panic ch =>
  obtain⟨ms,w4,hdf,htk,hR⟩:=hq₂
  obtain⟨todo,hnc,hs⟩:=har₂
  have s3:=takes_steps (P:=P) (F:=F.inRound l) (n:=n) ms w₃ w4 { b.atR a₂ todo with mode:= .panicking ch } (c::cs) (by simp) hdf hF' hr' htk
  refine⟨.panicked ch,w4,hR,s2.trans (hs.trans (s3.trans (.one ?_ (step_round_panic rfl rfl (notCall_catches hnc)))))⟩
  exact fenced_calm (fr:={ { b.atR a₂ todo with mode:= .panicking ch } with defers:=[] }) hF' hr' (by simp[Frame.about])
 | outgrown=>exact hq₂.elim

def isDp:SC->SC->Bool
 | .drw ..,.spec (.pan _)=>true
 | _,_=>false
def jok:SC->Bool
 | .loop .. | .rangeF .. => false
 | .seq a b=> !isDp a b && (jok a && jok b)
 | .cond _ a b=>jok a && jok b
 | .block _ a=>jok a
 | _=>true
def npQ (Q:Exit->St->Prop):Exit->St->Prop
 | .panic _,_=>False
 | e,s=>Q e s
theorem postM_np {cx:Cx} {ds:List Deferred} {Q:Exit->St->Prop} {e:Exit} {a:Act} {w:World} (h:PostM cx ds (npQ Q) e a w):(∀ ch,e≠ .panic ch)/\PostM cx ds Q e a w:=by
 obtain⟨ms,h1,h2,s,φ,hh,hq,hm⟩:=h
 cases e with
 | panic ch=>exact hq.elim
 | normal=>exact⟨by simp,ms,h1,h2,s,φ,hh,hq,hm⟩
 | exit id=>exact⟨by simp,ms,h1,h2,s,φ,hh,hq,hm⟩
 | goto l=>exact⟨by simp,ms,h1,h2,s,φ,hh,hq,hm⟩
 | ret=>exact⟨by simp,ms,h1,h2,s,φ,hh,hq,hm⟩
 | outgrown=>exact⟨by simp,ms,h1,h2,s,φ,hh,hq,hm⟩

theorem swJ_sound [CodesOf P] (hdraw:DrawSound P) (hF:Fence.Open F) {hi:Hints} {N bs:Nat} (c:Code): ∀ (sc:SC),compC P N hi c=some sc->jok sc=true-> ∀ (cx:Cx) (ds:List Deferred),cx.N=N->cx.bs=bs->GlobC cx.φ0 cx.w0 cx.Z->InRound F cx →
  ∀ (Q:Exit->St->Prop) (s:St) (φ:Mem) (h:Nat->Value) (tmps:Array Value) (w:World),
  Mod cx s φ h tmps w->sw P bs sc Q s->wpP F n P c (PostM cx ds Q) ⟨tmps,ds⟩ w:=by
 -- what cannot panic
 have plain: ∀ {c:Code} {sc:SC},compC P N hi c=some sc-> ∀ (cx:Cx) (ds:List Deferred),cx.N=N->cx.bs=bs->GlobC cx.φ0 cx.w0 cx.Z->InRound F cx →
   ∀ (Q:Exit->St->Prop) (s:St) (φ:Mem) (h:Nat->Value) (tmps:Array Value) (w:World),Mod cx s φ h tmps w->sw P bs sc (npQ Q) s->wpP F n P c (PostM cx ds Q) ⟨tmps,ds⟩ w :=
  fun hc cx ds hN hbs hgl hro Q s φ h tmps w hm hs=>wpP_of (sw_sound hdraw hF _ _ hc cx ds hN hbs hgl hro (npQ Q) s φ h tmps w hm hs) fun _ _ _=>postM_np
 induction c with
 | skip =>
  intro sc hc hj cx ds hN hbs hgl hro Q s φ h tmps w hm hs
  have hc':=hc
  cases hc
  exact plain hc' cx ds hN hbs hgl hro Q s φ h tmps w hm hs
 | ret =>
  intro sc hc hj cx ds hN hbs hgl hro Q s φ h tmps w hm hs
  have hc':=hc
  cases hc
  exact plain hc' cx ds hN hbs hgl hro Q s φ h tmps w hm hs
 | exit id =>
  intro sc hc hj cx ds hN hbs hgl hro Q s φ h tmps w hm hs
  have hc':=hc
  cases hc
  exact plain hc' cx ds hN hbs hgl hro Q s φ h tmps w hm hs
 | region id ops draw =>
  intro sc hc hj cx ds hN hbs hgl hro Q s φ h tmps w hm hs
  have hc':=hc
  simp only[compC] at hc
  split at hc
  ·rename_i k hk
   cases draw with
   | true =>
    simp only[if_true] at hc
    obtain⟨sops,p,rfl,_,_,_,rfl⟩:=dpan_some hc
    exact absurd hj Bool.false_ne_true
   | false =>
    simp only[Bool.false_eq_true,if_false] at hc
    cases hc
    cases k with
    | pan sops =>
     subst hN
     subst hbs
     obtain⟨bt,fz,hops,hdd⟩:=compSp_pan hk
     exact wpP_region (stepsX_sound (Nat.le_max_left _ _) hgl hF ops.toList sops hops (dstsOK_spec hdd) s φ h tmps w hm hs)
    | _=>exact plain hc' cx ds hN hbs hgl hro Q s φ h tmps w hm hs
  split at hc
  ·rename_i sops hl
   split at hc
   ·rename_i hd
    cases draw with
    | true =>
     simp only[if_true] at hc
     split at hc
     ·cases hc
      exact plain hc' cx ds hN hbs hgl hro Q s φ h tmps w hm hs
     ·cases hc
    | false =>
     simp only[Bool.false_eq_true,if_false] at hc
     cases hc
     exact plain hc' cx ds hN hbs hgl hro Q s φ h tmps w hm hs
   ·cases hc
  ·cases hc
 | seq a b iha ihb =>
  intro sc hc hj cx ds hN hbs hgl hro Q s φ h tmps w hm hs
  simp only[compC] at hc
  split at hc
  ·rename_i sa sb ha hb
   split at hc
   ·cases hc
    simp only[jok,Bool.and_eq_true] at hj
    have hj:=hj.2
    refine wpP_seq (wpP_mono (iha sa ha hj.1 cx ds hN hbs hgl hro _ s φ h tmps w hm hs) ?_)
    rintro e ⟨tm,df⟩ w' ⟨ms,hnd,hdf,s',φ',h',hq,hm'⟩
    simp only at hdf
    subst hdf
    cases e <;> first | exact⟨ms,hnd,rfl,s',φ',h',hq,hm'⟩ | exact wpP_mono (ihb sb hb hj.2 (cx.more ms) (ms.map mkd++ds) hN hbs hgl (hro.more ms) Q s' φ' h' tm w' hm' hq) (fun _ _ _ h=>h.after hnd)
   ·rename_i ts _
    cases hc
    simp only[jok,Bool.and_eq_true] at hj
    have hj:=hj.2
    refine wpP_seq (wpP_mono (iha sa ha hj.1 cx ds hN hbs hgl hro _ s φ h tmps w hm hs) ?_)
    rintro e ⟨tm,df⟩ w' ⟨ms,hnd,hdf,s',φ',h',hq,hm'⟩
    simp only at hdf
    subst hdf
    cases e <;> try exact⟨ms,hnd,rfl,s',φ',h',hq,hm'⟩
    obtain⟨φ2,hk,hmk⟩:=hm'.canonM ts
    have hq':sw P bs sb Q (s'.canon bs ts):=hq
    subst hbs
    exact wpP_mono (ihb sb hb hj.2.2.2 (cx.more ms) (ms.map mkd++ds) hN rfl hgl (hro.more ms) Q _ φ2 hk tm w' hmk hq') (fun _ _ _ h=>h.after hnd)
  ·cases hc
 | cond x a b iha ihb =>
  intro sc hc hj cx ds hN hbs hgl hro Q s φ h tmps w hm hs
  simp only[compC] at hc
  split at hc
  ·rename_i x' sa sb hx ha hb
   cases hc
   simp only[jok,Bool.and_eq_true] at hj
   simp only[sw] at hs
   have hv:=hm.get hgl (ds:=ds) hx
   split at hs
   ·rename_i t hxt
    rw[hxt] at hv
    refine wpP_cond hv.bool_inv ?_
    cases t
    ·exact ihb sb hb hj.2 cx ds hN hbs hgl hro Q s φ h tmps w hm (by simpa using hs)
    ·exact iha sa ha hj.1 cx ds hN hbs hgl hro Q s φ h tmps w hm (by simpa using hs)
   ·exact hs.elim
  ·cases hc
 | block id c ih =>
  intro sc hc hj cx ds hN hbs hgl hro Q s φ h tmps w hm hs
  simp only[compC] at hc
  cases hc':compC P N hi c with
  | none=>rw[hc'] at hc; cases hc
  | some sb =>
   rw[hc'] at hc; cases hc
   refine wpP_block (wpP_mono (ih sb hc' hj cx ds hN hbs hgl hro _ s φ h tmps w hm hs) ?_)
   rintro e ⟨tm,df⟩ w' ⟨ms,hnd,hdf,s',φ',h',hq,hm'⟩
   cases e <;> try exact⟨ms,hnd,hdf,s',φ',h',hq,hm'⟩
   rename_i i
   simp only[inBlockS] at hq
   simp only[Exit.inBlock]
   split at hq
   ·rename_i hi; rw[if_pos hi]; exact⟨ms,hnd,hdf,s',φ',h',hq,hm'⟩
   ·rename_i hi; rw[if_neg hi]; exact⟨ms,hnd,hdf,s',φ',h',hq,hm'⟩
 | loop c ih =>
  intro sc hc hj
  simp only[compC] at hc
  cases hc':compC P N hi c with
  | none=>rw[hc'] at hc; cases hc
  | some sb=>rw[hc'] at hc; cases hc; cases hj
 | rangeFunc g ps ca cb iha ihb =>
  intro sc hc hj
  simp only[compC] at hc
  split at hc
  ·cases hc; cases hj
  ·cases hc
 | scope=>intro sc hc; cases hc
 | label=>intro sc hc; cases hc
 | goto=>intro sc hc; cases hc
 | refuse=>intro sc hc; cases hc
end

def YPan (P:Program) (k:Nat) (R:D->Obs->Prop) (rid N:Nat) (ps:Array Tmp) (a b:SC) (keys:List Nat) (ds:List D) (c:List PanicEntry) (s:St):Prop :=
 ∃ v,c=[{ v,recovered:=false }]/\R (.pan v) ((rid,.gen (.loop .busy none ps a b N keys) ds)::(s.canon k []).ob)

section
variable {P:Program} {F:Fence} {n:Nat}
theorem setk_more (cx:Cx) (ms:List Nat) (l:Nat) (o:Obj):Cx.setk (cx.more ms) l o=(cx.setk l o).more ms:=by
 unfold Cx.setk Cx.more
 congr 1
 funext b
 simp only
 split
 ·rfl
 ·rfl

theorem CallL.yldJ [CodesOf P] (hdraw:DrawSound P) {N:Nat} {ps:Array Tmp} {a b:SC} {keys:List Nat} {ds:List D} {rid:Nat} {args:List D} {ob:Obs} {R:D->Obs->Prop} (k:Nat) (hk:Obs.top ob<=k)
  (hrec:lk ob rid=some (.gen (.loop .ready none ps a b N keys) ds)) (hps:ps.size=args.length) (hpN: ∀ t∈ps.toList,t<N) (hj:jok b=true)
  (hsw:sw P k a (fun e s=>match e with
   | .normal=>sw P k b (fun e s'=>lk s'.ob rid=none/\match e with
    | .normal=>YRet P k R rid N ps a b keys ds none s'
    | .ret=>YRet P k R rid N ps a b keys ds (some .ret) s'
    | .exit i=>YRet P k R rid N ps a b keys ds (some (.exit i)) s'
    | .panic c=>YPan P k R rid N ps a b keys ds c s'
    | _=>False) s
   | _=>False) ⟨putP (ps.toList.zip args) (keys.zip ds),eraseId rid ob⟩) :
  CallL P (.yld rid) args ob R:=by
 intro F hF n φ h w v vs hp hv hvs
 obtain⟨l,hhl,rfl⟩: ∃ l,h rid= .pointer (some ⟨l,0,none⟩)/\v= .func (.yield l) #[] #[]:=by
  cases hv with
  | pure r=>cases r
  | yld _ l hh=>exact⟨l,hh,rfl⟩
 have hob:=hp.obj rid _ hrec
 rw[hhl] at hob
 obtain⟨b0,vals,o,hb0,hown,hheap,hgis,hvl,hvrv,hnone⟩:=hob
 cases hb0
 obtain⟨_,r,rfl,hst,hpe,hpar,hca,hcb,htsz,rfl⟩:=hgis
 obtain⟨hia,ha⟩:=(CodesOf.ci (P:=P) _ _ _).1 hca
 obtain⟨hib,hb⟩:=(CodesOf.ci (P:=P) _ _ _).1 hcb
 have hridk:rid<k:=(Obs.top_get hk hrec).1
 have hvsz:vs.size=r.params.size:=by rw[hpar,hps]; have:=hvs.length; simpa using this
 have hrv0: ∀ t d,lk (keys.zip ds) t=some d->RV φ h (r.tmps.getD t Go.undef) d:=fun t d hl=>by
  obtain⟨j,h1,h2⟩:=zip_lk hl
  have h3:=hvrv j d h2
  have:(keys.map fun t=>r.tmps.getD t Go.undef).getD j Go.undef=r.tmps.getD t Go.undef:=by simp[List.getD,List.getElem?_map,h1]
  rw[this] at h3
  exact h3
 have hrun:(callv (.func (.yield l) #[] #[]) vs).run P w= .ok (.round l r.fn ((r.params.zip vs).foldl (fun tmps (t,a)=>tmps.setIfInBounds t a) r.tmps) r.assign r.body) w:=by
  simp only[callv,Deferred.ofValue,invoke,Sem.run_bind,Sem.run_pure,Result.andThen_ok]
  rw[Array.empty_append]
  exact run_yield hheap hvsz
 rw[hrun]
 show RoundIn F n P l r.fn _ r.assign r.body w _
 refine roundJ_of (hF.fn _) ?_
 have hfold:(r.params.zip vs).foldl (fun tmps (t,a)=>tmps.setIfInBounds t a) r.tmps=(ps.toList.zip vs.toList).foldl (fun tm x=>tm.setIfInBounds x.1 x.2) r.tmps:=by
  rw[hpar,<- Array.foldl_toList,Array.toList_zip]
 rw[hfold]
 have htmsz:((ps.toList.zip vs.toList).foldl (fun tm x=>tm.setIfInBounds x.1 x.2) r.tmps).size=N:=by rw[zipfold_size,htsz]
 have hm':=hp.enter (N:=N) (k:=k) (kp:=fun b=>if b=l then some (.loop r) else none) (E:=putP (ps.toList.zip args) (keys.zip ds)) (ob1:=eraseId rid ob) htmsz
  (putP_rv ps.toList vs.toList args (keys.zip ds) r.tmps hvs (fun t ht=>by rw[htsz]; exact hpN t ht) hrv0)
  (fun i o ho=>by
   rw[look_erase] at ho
   split at ho
   ·cases ho
   ·exact ho)
  (fun q o hq=>by
   split at hq
   ·rename_i e
    cases hq
    subst e
    refine⟨hheap,hnone,fun i hi hbi=> ?_⟩
    rw[look_erase] at hi
    split at hi
    ·cases hi
    ·rename_i hne
     exact hne (hp.sep i rid q hi (by rw[hrec]; rfl) hbi (by rw[hhl]; rfl))
   ·cases hq)
 have hZl:ZOf ob h l:=⟨rid,by rw[hrec]; rfl,by rw[hhl]; rfl⟩
 refine wpIn_mono (sw_sound (n:=n) hdraw (hF.inRound l) r.assign a ha _ [] rfl rfl hp.glob (fun l' hl'=>⟨r,by
  have:some l=some l':=hl'
  cases this
  simp⟩) _ _ φ h _ w hm' hsw) ?_
 rintro e a1 w1 ⟨ms1,hnd1,hdf1,s1,φ1,h1,hq1,hm1⟩
 cases e <;> try exact hq1.elim
 have hk1: ∀ {cx1:Cx},cx1.kp l=some (.loop r)-> ∀ ms,(cx1.more ms).kp l=some (.loop r):=fun hk ms=>by simp[Cx.more,hk]
 have hk1':=hk1 (cx1:={ N,w0:=w,φ0:=φ,Z:=ZOf ob h,bs:=k,h0:=h,kp:=fun b=>if b=l then some (.loop r) else none }) (by simp) ms1
 have hheap1:=(hm1.kept l _ hk1').1
 refine⟨_,run_beginRound hheap1 hst, ?_⟩
 have hm1b:=hm1.setKp (o1:= .loop { r with state:= .busy }) hk1' (.inr hZl)
 obtain⟨tm1,df1⟩:=a1
 refine wpP_mono (swJ_sound (n:=n) hdraw (hF.inRound l) r.body b hb hj _ df1 rfl rfl hp.glob (fun l' hl'=>⟨{ r with state:= .busy },by
  have:some l=some l':=hl'
  cases this
  simp[Cx.setk]⟩) _ _ φ1 h1 tm1 _ hm1b hq1) ?_
 rintro e a2 w2 ⟨ms2,hnd2,hdf2,s2,φ2,h2,⟨hrn,hq2⟩,hm2⟩
 -- the record at the end,whatever its state
 have tail: ∀ (kp:Nat->Option Obj) (tm':Array Value) (w':World) (r2:Loop),kp l=some (.loop r2)->r2.params=r.params->r2.tmps=r.tmps->r2.assign=r.assign->r2.body=r.body →
   Mod { N,w0:=w,φ0:=φ,Z:=ZOf ob h,bs:=k,h0:=h,kp:=kp } s2 φ2 h2 tm' w' →
   ∃ hh,After ob φ h w ((rid,.gen (.loop r2.state r2.pending ps a b N keys) ds)::(s2.canon k []).ob) φ2 hh w':=by
  intro kp tm' w' r2 hkp q1 q2 q3 q4 hm3
  obtain⟨hh,_,hm4⟩:=hm3.canS (tm:=[]) (fun _ _ h=>by simp[lk] at h) (nw:=newN k s2.ob [])
  have hm5:Mod _ (s2.canon k []) φ2 hh _ _:=hm4
  have hhl':hh rid= .pointer (some ⟨l,0,none⟩):=by rw[hm5.hfix rid hridk]; exact hhl
  have hrn':=canon_rid hrn hridk
  have hkl:=hm5.kept l (.loop r2) hkp
  refine⟨hh,⟨⟨hm5.one,(hm5.glob hp.glob).sub (fun b ⟨i,hi,hb⟩=>by
   simp only[lk] at hi
   split at hi
   ·rename_i e
    subst e
    rw[hhl'] at hb
    simp only[blk,Option.some.injEq] at hb
    exact hb ▸ .inr hZl
   ·exact hm5.zof ⟨i,hi,hb⟩),hm5.mem,fun i o ho=> ?_,fun i j q hi hj hqi hqj=> ?_⟩,hm5.ext,fun b o u q1 q2=>(hm5.new b o u q1 q2),fun b q1 q2=>hm5.frame b q1 q2,fun i hi=> ?_,hm5.os,hm5.tape,hm5.output,hm5.grow⟩⟩
  ·simp only[lk] at ho
   split at ho
   ·rename_i e
    subst e
    cases ho
    rw[hhl']
    refine⟨l,keys.map fun t=>r.tmps.getD t Go.undef,_,rfl,.inr hZl,hkl.1,⟨⟨l,rfl⟩,_,rfl,rfl,rfl,by rw[q1]; exact hpar,by rw[q3]; exact hca,by rw[q4]; exact hcb,by rw[q2]; exact htsz,by rw[q2]⟩,hvl,fun j d hd=> ?_,fun off=>hkl.2.1 off⟩
    have hdt:D.top d<=k:=topL_get (Obs.top_get hk hrec).2 (List.mem_of_getElem? hd)
    exact ((hvrv j d hd).mono hm5.ext).under hdt fun i hi=>hm5.hfix i hi
   ·have hob:=hm5.ob i o ho
    exact hob.keep (fun b hb=>hb) (fun _ _=>rfl) (fun _ _ _ h=>h) (fun _ _ _=>rfl) (fun _ _ _ r=>r)
  ·have key: ∀ i',(lk (s2.canon k []).ob i').isSome->blk (hh i')=some q->blk (hh rid)=some q->False:=fun i' h1 h2 h3=>by
    rw[hhl'] at h3
    cases h3
    exact hkl.2.2 i' h1 h2
   simp only[lk] at hi hj
   by_cases e1:i=rid <;> by_cases e2:j=rid
   ·rw[e1,e2]
   ·rw[if_neg e2] at hj
    exact (key j hj hqj (by rw[<- e1]; exact hqi)).elim
   ·rw[if_neg e1] at hi
    exact (key i hi hqi (by rw[<- e2]; exact hqj)).elim
   ·rw[if_neg e1] at hi
    rw[if_neg e2] at hj
    exact hm5.sep i j q hi hj hqi hqj
  ·obtain⟨o,ho⟩:=Option.isSome_iff_exists.1 hi
   exact hm5.hfix i (Obs.top_get hk ho).1
 have hk2:((Cx.setk (Cx.more { N,w0:=w,φ0:=φ,Z:=ZOf ob h,bs:=k,h0:=h,kp:=fun b=>if b=l then some (.loop r) else none } ms1) l (.loop { r with state:= .busy })).more ms2).kp l=some (.loop { r with state:= .busy }):=by
  simp[Cx.more,Cx.setk]
 have hheap2:=(hm2.kept l _ hk2).1
 have fin: ∀ pend:Option Code,YRet P k R rid N ps a b keys ds pend s2 →
   ∃ v w',(Instr.endRound l pend).run P w2= .ok v w'/\Post ob φ h w R (.returned v) w':=by
  intro pend hy
  obtain⟨hh,haf⟩:=tail _ _ _ { { r with state:= .busy } with state:=if pend.isNone then .ready else .done,pending:=pend } (by simp[Cx.setk]) rfl rfl rfl rfl (hm2.setKp (o1:= .loop { { r with state:= .busy } with state:=if pend.isNone then .ready else .done,pending:=pend }) hk2 (.inr hZl))
  exact⟨_,_,run_endRound pend hheap2,.ret hy (.pure (.bool _)) haf⟩
 cases e <;> first | exact hq2.elim | exact fin _ hq2 | skip
 obtain⟨v,rfl,hR⟩:=hq2
 -- the marks taken
 obtain⟨w3,ht3,hm3⟩:=takes_mod (P:=P) ms2 w2 hnd2 hm2
 rw[setk_more] at hm3
 obtain⟨w4,ht4,hm4⟩:=takes_mod (P:=P) ms1 w3 ⟨hnd1.1,fun q hq=>by
  obtain⟨g1,g2⟩:=hnd1.2 q hq
  refine⟨?_,g2⟩
  simp only[Cx.setk] at g1 ⊢
  split at g1
  ·cases g1
  ·rename_i hne; simp[hne]⟩ hm3
 have hbusy:({ r with state:= .busy }:Loop).pending=none:=hpe
 obtain⟨hh,haf⟩:=tail _ _ _ { r with state:= .busy } (by simp[Cx.setk]) rfl rfl rfl rfl hm4
 rw[hbusy] at haf
 exact⟨ms2++ms1,w4,by rw[hdf2,List.map_append]; simp only at hdf1; rw[hdf1,List.append_nil],takes_app ht3 ht4,.pan v,_,φ2,hh,.inr ⟨v,rfl,rfl⟩,hR,haf⟩
end

def finJ (k rid N:Nat) (ps:Array Tmp) (a b:SC) (keys:List Nat) (ds:List D):Exit->St->Tr:=fun e s=>match e with
 | .panic [⟨v,false,false⟩]=>if (lk s.ob rid).isNone=true then .ret (.pan v) (sortO ((rid,.gen (.loop .busy none ps a b N keys) ds)::(s.canon k []).ob)) else .bad
 | e=>finY k rid N ps a b keys ds e s
def yldTJ (P:Program) (tb:Ctr) (k rid N:Nat) (ps:Array Tmp) (a b:SC) (keys:List Nat) (ds:List D) (n:Nat) (s:St):Tr :=
 goT P tb k (fun e s=>match e with
  | .normal=>goT P tb k (finJ k rid N ps a b keys ds) n [.sc b] s
  | _=> .bad) n [.sc a] s

section
variable {P:Program}
theorem CallL.yldTJ [CodesOf P] (hdraw:DrawSound P) {tb:Ctr} (htb:tb.OK P) {n k rid N:Nat} {ps:Array Tmp} {a b:SC} {keys:List Nat} {ds args:List D} {ob:Obs} {R:D->Obs->Prop} {T:Tr}
  (hrec:lk ob rid=some (.gen (.loop .ready none ps a b N keys) ds)) (e:Sx.yldTJ P tb k rid N ps a b keys ds n ⟨putP (ps.toList.zip args) (keys.zip ds),eraseId rid ob⟩=T)
  (h:T.ok R (fun _ _=>False)) (hj:jok b=true:=by rfl) (hk:Nat.ble (Obs.top ob) k=true:=by rfl) (hps:ps.size=args.length:=by rfl) (hpN:(ps.toList.all fun t=>decide (t<N))=true:=by rfl):CallL P (.yld rid) args ob R:=by
 have hk:=Nat.le_of_ble_eq_true hk
 refine CallL.reordG (CallL.yldJ hdraw k hk hrec hps (fun t ht=>by simpa using List.all_eq_true.1 hpN t ht) hj ?_)
 have h':(Sx.yldTJ P tb k rid N ps a b keys ds n ⟨putP (ps.toList.zip args) (keys.zip ds),eraseId rid ob⟩).ok R (fun _ _=>False):=e ▸ h
 unfold Sx.yldTJ at h'
 refine at_sw (goT_ok htb (fun e s hf=> ?_) (fun _ _ h=>h.elim) h')
 cases e <;> try exact hf.elim
 refine at_sw (goT_ok htb (fun e s hf=> ?_) (fun _ _ h=>h.elim) hf)
 have other: ∀ e:Exit,(finY k rid N ps a b keys ds e s).ok R (fun _ _=>False)-> ∃ pend,pendE e=some pend/\lk s.ob rid=none/\R (.bool pend.isNone) (sortO ((rid,.gen (.loop (if pend.isNone then .ready else .done) pend ps a b N keys) ds)::(s.canon k []).ob)):=by
  intro e hf
  unfold finY at hf
  split at hf
  ·rename_i pend hpe
   split at hf
   ·rename_i hn
    exact⟨pend,hpe,by simpa using hn,hf⟩
   ·exact hf.elim
  ·exact hf.elim
 cases e with
 | normal =>
  obtain⟨pend,h1,h2,h3⟩:=other .normal hf
  simp only[pendE,Option.some.injEq] at h1
  subst h1
  exact⟨h2,h3⟩
 | ret =>
  obtain⟨pend,h1,h2,h3⟩:=other .ret hf
  simp only[pendE,Option.some.injEq] at h1
  subst h1
  exact⟨h2,h3⟩
 | exit i =>
  obtain⟨pend,h1,h2,h3⟩:=other (.exit i) hf
  simp only[pendE,Option.some.injEq] at h1
  subst h1
  exact⟨h2,h3⟩
 | goto i =>
  obtain⟨pend,h1,_⟩:=other (.goto i) hf
  simp[pendE] at h1
 | outgrown =>
  obtain⟨pend,h1,_⟩:=other .outgrown hf
  simp[pendE] at h1
 | panic c =>
  unfold finJ at hf
  split at hf
  ·rename_i v heq
   cases heq
   split at hf
   ·rename_i hn
    exact⟨by simpa using hn,v,rfl,hf⟩
   ·exact hf.elim
  ·obtain⟨pend,h1,_⟩:=other (.panic c) hf
   simp[pendE] at h1
end
end Go.Sx

/- PANICS: what a call leaves that panics,forgotten. -/
namespace Go.Sx
open Go.RowKit
variable [Globs] [Codes]
variable {P:Program}
theorem CallL.pdrop {d:D} {args:List D} {ob:Obs} {R:D->Obs->Prop} {v:Value} (h:CallL P d args ob R) (hR: ∀ r o,R r o->r= .pan v):CallL P d args ob fun r o=>r= .pan v/\o=[]:=by
 intro F hF n φ hh w u vs hp hv hvs
 refine (h F hF n φ hh w u vs hp hv hvs).mono ?_
 rintro e w' ⟨r,o,φ',h',he,hr,ha⟩
 have e1:=hR r o hr
 subst e1
 refine⟨.pan v,[],φ',h', ?_,⟨rfl,rfl⟩,⟨⟨ha.loc.one,ha.loc.glob.sub fun b ⟨i,hi,_⟩=>by simp[lk] at hi,ha.loc.mem,fun i o ho=>by simp[lk] at ho,fun i j b hi=>by simp[lk] at hi⟩,ha.ext,ha.new,ha.frame,ha.hfix,ha.os,ha.tape,ha.output,ha.grow⟩⟩
 rcases he with ⟨x,h1,h2⟩ | ⟨x,h1,h2⟩
 ·exact h2.notPan.elim
 ·exact .inr ⟨x,h1,h2⟩
theorem RVL_at {φ:Mem} {h:Nat->Value}: ∀ {vs:List Value} {ds:List D},RVL φ h vs ds-> ∀ (j:Nat) (d:D),ds[j]? = some d->RV φ h (vs.getD j Go.undef) d
 | [],_::_,hr,_,_,_=>hr.elim
 | _,[],_,j,d,hd=>by simp at hd
 | _::_,_::_,hr,0,d,hd=>by cases hd; exact hr.1
 | _::vs,_::ds,hr,j+1,d,hd=>by
  have:=RVL_at hr.2 j d (by simpa using hd)
  simpa using this
theorem FnOK.callS {f:FuncId} (hpf:pureF P f=true) {args:List D} {es ext:List (List D)} (h:FnOK P f args (.slice es ext)):CallL P (.func (.func f) [] []) args [] fun r o=>r= .slice es ext/\o=[]:=by
 intro F hF n φ hh w u vs hp hv hvs
 obtain⟨va,vc,rfl,hva,hvc⟩: ∃ va vc,u= .func (.func f) va vc/\va.size=0/\vc.size=0:=by
  cases hv with
  | pure hr=>cases hr
  | func _ vf vc _ _ hf hc _ _=>exact⟨vf,vc,rfl,hf,hc⟩
 rw[run_callv_func hpf]
 have ea:va= #[]:=by simpa using hva
 have ec:vc= #[]:=by simpa using hvc
 subst ea; subst ec
 simp only[Array.empty_append,Array.append_empty,DynOut]
 have hsz:vs.size=args.length:=by
  have:=hvs.length
  simpa using this
 have hg:GlobC φ w (fun _=>False):=hp.glob.sub fun b h=>h.elim
 refine hF.calls ((h φ hh w vs hp.one hg hp.mem hsz fun j d hd=> ?_).mono ?_) n
 ·have:=RVL_at hvs j d hd
  simpa [Array.getD_eq_getD_getElem?,List.getD] using this
 ·rintro e w' ⟨v,φ',rfl,hR,hb,h1,h2,h3⟩
  refine .ret ⟨rfl,rfl⟩ (hR hh) (φ':=φ') (h':=hh) ⟨⟨hp.one, ?_,h2,fun i o ho=>by simp[lk] at ho,fun i j b hi=>by simp[lk] at hi⟩,h1,fun b o u hu hn=> .inl (h3 b o u hu hn),fun b hb' _=>hb.block b hb',fun _ _=>rfl,hb.os,hb.tape,hb.output,hb.size⟩
  refine⟨fun g cs hgc=>(hp.glob.ok g cs hgc).mono h1,fun g' arr hx=> ?_,fun g' hx=> ?_⟩
  ·obtain⟨⟨ty',fr,hw⟩,_⟩:=hp.glob.x g' arr hx
   exact⟨⟨ty',fr,by rw[hb.block _ (Array.getElem?_eq_some_iff.1 hw).1,hw]⟩,fun ⟨i,hi,_⟩=>by simp[lk] at hi⟩
  ·obtain⟨⟨arr,ty',fr,q,hw,ha⟩,_⟩:=hp.glob.i g' hx
   exact⟨⟨arr,ty',fr,q,by rw[hb.block _ (Array.getElem?_eq_some_iff.1 hw).1,hw],ha⟩,fun ⟨i,hi,_⟩=>by simp[lk] at hi⟩
end Go.Sx

/- A FUNCTION THAT DEFERS A CALL,BY TREES. -/
namespace Go.Sx
open Go.RowKit
variable [Globs] [Codes]
section
variable {P:Program}
def goLn (tb:Ctr) (bs:Nat):SC->St->(Exit->St->Tr)->Tr
 | .skip,s,K=>K .normal s
 | .ret,s,K=>K .ret s
 | .exit i,s,K=>K (.exit i) s
 | .reg ops,s,K=>opsT tb (s.nx bs) ops s fun s'=>K .normal s'
 | .seq a b,s,K=>goLn tb bs a s fun e s'=>match e with
  | .normal=>goLn tb bs b s' K
  | e=>K e s'
 | .cond x a b,s,K=>match s.get x with
  | .bool t=>brT t (goLn tb bs a s K) (goLn tb bs b s K)
  | _=> .bad
 | _,_,_=> .bad
theorem goLn_ok {tb:Ctr} (htb:tb.OK P) {bs:Nat} {R:D->Obs->Prop} {J:List Fr->St->Prop}: ∀ (sc:SC) (s:St) (K:Exit->St->Tr) (Q:Exit->St->Prop),(∀ e s,(K e s).ok R J->Q e s)->(goLn tb bs sc s K).ok R J->sw P bs sc Q s:=by
 intro sc
 induction sc with
 | skip=>exact fun s K Q hK h=>hK _ _ h
 | ret=>exact fun s K Q hK h=>hK _ _ h
 | exit i=>exact fun s K Q hK h=>hK _ _ h
 | reg ops =>
  intro s K Q hK h
  obtain⟨s1,h1,h2⟩:=opsT_ok htb h
  exact h1 _ (hK _ _ h2)
 | seq a b iha ihb =>
  intro s K Q hK h
  refine iha s _ _ (fun e s' h'=> ?_) h
  cases e <;> first | exact ihb s' K Q hK h' | exact hK _ _ h'
 | cond x a b iha ihb =>
  intro s K Q hK h
  simp only[goLn] at h
  simp only[sw]
  split at h
  ·rename_i t hx
   rw[hx]
   cases t
   ·exact ihb s K Q hK h
   ·exact iha s K Q hK h
  ·exact h.elim
 | _=>exact fun s K Q hK h=>h.elim
def goD (tb:Ctr) (bs:Nat) (rs:List SR):SC->St->Tr
 | .seq a b,s=>match a with
  | .spec (.dfr ops x)=>opsT tb (s.nx bs) ops s fun s1=> .jmp [.sc (.seq (.spec (.dfr [] x)) b)] s1
  | .spec (.frg ts)=>goD tb bs rs b (s.canon bs ts)
  | a=>goLn tb bs a s fun e s=>match e with
   | .normal=>goD tb bs rs b s
   | e=>finF false bs rs e s
 | _,_=> .bad
def JD (P:Program) (bs:Nat) (rs:List SR) (R:D->Obs->Prop):List Fr->St->Prop:=fun K s=>match K with
 | [.sc (.seq (.spec (.dfr _ x)) b)]=>KDef P bs rs R (s.get x) b s
 | _=>False
theorem goD_ok {tb:Ctr} (htb:tb.OK P) {bs:Nat} {rs:List SR} {R:D->Obs->Prop}: ∀ (sc:SC) (s:St),(goD tb bs rs sc s).ok R (JD P bs rs (RE false R)) →
  swD P bs (EndQ rs (RetL bs (RE false R))) (KDef P bs rs (RE false R)) sc s:=by
 intro sc
 induction sc with
 | seq a b iha ihb =>
  intro s h
  have usual:(goLn tb bs a s fun e s=>match e with
   | .normal=>goD tb bs rs b s
   | e=>finF false bs rs e s).ok R (JD P bs rs (RE false R))->sw P bs a (thenS (swD P bs (EndQ rs (RetL bs (RE false R))) (KDef P bs rs (RE false R)) b) (EndQ rs (RetL bs (RE false R)))) s:=fun h=>by
   refine goLn_ok htb a s _ _ (fun e s' h'=> ?_) h
   cases e with
   | normal=>exact ihb s' h'
   | ret=>exact finF_ok .ret s' h'
   | exit i=>exact (finF_ok (.exit i) s' h').elim
   | goto i=>exact (finF_ok (.goto i) s' h').elim
   | panic c=>exact finF_ok (.panic c) s' h'
   | outgrown=>exact (finF_ok .outgrown s' h').elim
  cases a with
  | spec k =>
   cases k with
   | dfr ops x =>
    obtain⟨s1,h1,h2⟩:=opsT_ok htb h
    exact h1 _ h2
   | frg ts=>exact ihb _ h
   | _=>exact usual h
  | _=>exact usual h
 | _=>exact fun s h=>h.elim
theorem KDef.at {k k2:Nat} {rs:List SR} {R:D->Obs->Prop} {cl:D} {sb:SC} {s1:St} (g:FuncId) (fa fc:List D) (hcl:cl= .func (.func g) fa fc) (hpg:pureF P g=true) (h1:s1.top<=k2) (h2:k<=k2) (h3:D.top cl<=k2) (h:At P k2 [.sc sb] s1 (DefQ P k k2 rs cl R)):KDef P k rs R cl sb s1 :=
 ⟨g,fa,fc,k2,hcl,hpg,h1,h2,h3,at_sw h⟩
def defT (P:Program) (tD:FrameMode->Obs->Option (FrameMode × Obs)) (k k2:Nat) (rs:List SR) (cl:D) (u:FrameMode) (s2:St):Tr :=
 let nm:=handN s2 [cl]
 if nodupB nm=true then (match tD u (handO s2.ob (idx · nm) 0 nm) with
  | some (u',ob')=> .owe (CallD P u (cl.ren (idx · nm)) (handO s2.ob (idx · nm) 0 nm) fun u0 ob0=>u0=u'/\ob0=ob') (match settle u' with
   | .returning=>endT false k rs (s2.back (s2.base k2) nm ob')
   | _=> .bad)
  | none=> .bad) else .bad
theorem defT_ok {tD:FrameMode->Obs->Option (FrameMode × Obs)} {k k2:Nat} {rs:List SR} {cl:D} {u:FrameMode} {s2:St} {R:D->Obs->Prop} {J:List Fr->St->Prop} (h:(defT P tD k k2 rs cl u s2).ok R J):DQ P k k2 rs cl (RE false R) u s2:=by
 unfold defT at h
 simp only at h
 split at h
 ·rename_i hnd
  split at h
  ·rename_i u' ob' _
   obtain⟨hC,h⟩:=h
   split at h
   ·rename_i hs
    obtain⟨ds,h1,h2⟩:=endT_ok h
    refine⟨_,_,s2.base k2,nodupB_sound hnd,fun i hi=>handN_some i hi,Nat.le_trans (Nat.le_add_right _ _) (Nat.le_max_left ..),Nat.le_max_right ..,hC, ?_⟩
    rintro u0 ob0 ⟨rfl,rfl⟩
    exact⟨hs,ds,h1,h2⟩
   ·exact h.elim
  ·exact h.elim
 ·exact h.elim
def finDf (P:Program) (tD:FrameMode->Obs->Option (FrameMode × Obs)) (k k2:Nat) (rs:List SR) (cl:D):Exit->St->Tr:=fun e s=>match e with
 | .normal=>defT P tD k k2 rs cl .returning s
 | .ret=>defT P tD k k2 rs cl .returning s
 | .panic c=>defT P tD k k2 rs cl (.panicking c) s
 | _=> .bad
theorem finDf_ok {tD:FrameMode->Obs->Option (FrameMode × Obs)} {k k2:Nat} {rs:List SR} {cl:D} {R:D->Obs->Prop} {J:List Fr->St->Prop} (e:Exit) (s:St) (h:(finDf P tD k k2 rs cl e s).ok R J):DefQ P k k2 rs cl (RE false R) e s:=by
 cases e <;> first | exact defT_ok h | exact h.elim
theorem At.treeD {tb:Ctr} (htb:tb.OK P) {tD:FrameMode->Obs->Option (FrameMode × Obs)} {n k k2:Nat} {rs:List SR} {cl:D} {K:List Fr} {s:St} {R:D->Obs->Prop} {T:Tr} (e:goT P tb k2 (finDf P tD k k2 rs cl) n K s=T)
  (h:T.ok R (fun K s=>At P k2 K s (DefQ P k k2 rs cl (RE false R)))):At P k2 K s (DefQ P k k2 rs cl (RE false R)) :=
 goT_ok htb finDf_ok (fun _ _ h=>h) (e ▸ h)
theorem CallL.treeD [CodesOf P] (hdraw:DrawSound P) {f:FuncId} {N:Nat} {sc:SC} {rs:List SR} (hf:FnC P f N sc rs/\pureF P f=true) {tb:Ctr} (htb:tb.OK P) {bs:Nat} {first args caps:List D} {ob:Obs} {R:D->Obs->Prop} {T:Tr}
  (e:goD tb bs rs sc ⟨envOf 0 (first++args++caps),ob⟩=T) (h:T.ok R (JD P bs rs (RE false R))) (hlen:Nat.ble (first++args++caps).length N=true:=by rfl) (hbs:Nat.ble (Obs.top ob) bs=true:=by rfl):CallL P (.func (.func f) first caps) args ob R :=
 CallL.reordG (CallL.fnD hdraw hf.1 hf.2 bs (Nat.le_of_ble_eq_true hbs) (Nat.le_of_ble_eq_true hlen) (goD_ok htb sc _ (e ▸ h)))
def finRc (k:Nat):Exit->St->Tr:=fun e s=>match e with
 | .normal=> .ret (.tuple []) (s.fin k (.tuple [])).ob
 | .ret=> .ret (.tuple []) (s.fin k (.tuple [])).ob
 | _=> .bad
def goRc (P:Program) (tb:Ctr) (k n:Nat) (ops:List SOp) (sb:SC) (s0:St):Tr:=opsT tb (St.nx s0 k) ops s0 fun s1=>goT P tb k (finRc k) n [.sc sb] s1
theorem CallD.tree [CodesOf P] (hdraw:DrawSound P) {g:FuncId} {N t:Nat} {ops:List SOp} {sb:SC} (hf:FnC P g N (.seq (.spec (.rcv t ops)) sb) []) {tb:Ctr} (htb:tb.OK P) {first caps:List D} {ob:Obs} {n k:Nat} {u:FrameMode} {R:FrameMode->Obs->Prop} {T:Tr}
  (e:goRc P tb k n ops sb ⟨(t,.raw (recM u).1)::eraseId t (envOf 0 (first++caps)),ob⟩=T)
  (h:T.ok (fun _ ob'=>R (recM u).2 ob') (fun _ _=>False)) (hone:(recM u).1.oneCell'=true:=by rfl) (hlen:Nat.ble (first++caps).length N=true:=by rfl) (hk:Nat.ble (Obs.top ob) k=true:=by rfl):CallD P u (.func (.func g) first caps) ob R:=by
 have h':(goRc P tb k n ops sb ⟨(t,.raw (recM u).1)::eraseId t (envOf 0 (first++caps)),ob⟩).ok (fun _ ob'=>R (recM u).2 ob') (fun _ _=>False):=e ▸ h
 unfold goRc at h'
 obtain⟨s1,h1,h2⟩:=opsT_ok htb h'
 refine CallD.fn hdraw hf k (Nat.le_of_ble_eq_true hk) (Nat.le_of_ble_eq_true hlen) hone (h1 _ (at_sw (goT_ok htb (fun e s hf=> ?_) (fun _ _ h=>h.elim) h2)))
 cases e with
 | normal=>exact⟨.inl rfl,hf⟩
 | ret=>exact⟨.inr rfl,hf⟩
 | _=>exact hf.elim
end
end Go.Sx

/- REPLACING AN INTERVAL,PLAIN. -/
namespace Go.Sx
abbrev F2 (a b:Tm):Tm:= .mk 4 0 [102] [a,b]
abbrev spanT (a b:Int):Tm:= .mk 6 0 [] [numT a,numT b]
theorem depth_pos (t:Tm):1<=t.depth:=by
 obtain⟨k,n,s,l⟩:=t
 rw[Tm.depth]; omega
theorem depth_num (m:Int):(numT m).depth=1:=rfl
theorem shape_num {m:Int} (h:fitsB m=true):(numT m).all Tm.shape=true:=by
 have:=fitsB_iff.1 h
 simp[numT,Tm.all,Tm.allL,Tm.shape,shapeB,this.1,this.2]
structure RepL (ws os ns:XR) (n:Nat):Prop where
 none_:ns= .ok []\/ns= .many\/ns= .arg
 arg1:os= .arg ↔ ws= .arg
 arg2:ns= .arg ↔ os= .arg
 ok: ∀ l,ws= .ok l-> ∃ q,os= .ok q/\l.length=q.length*(n+1)/\List.Sublist q l
end Go.Sx

/- THE TERMS WITHOUT INTERVALS,PLAIN. -/
namespace Go.Sx
def rowsX (rows:List (List Tm)) (p:List Tm):List (List Tm):=rows.flatMap fun r=>p.map fun x=>r++[x]
def spanI (a b:Option Tm):Option (Int × Int):=match a,b with
 | some x,some y=>(match x.int?,y.int? with
  | some m,some n=>some (m,n)
  | _,_=>none)
 | _,_=>none
def spanGo:List (List Tm)->List Tm->Option (List Tm)
 | [],out=>some out
 | r::rs,out=>match spanI (r.getD 0 (numT 0)).eval (r.getD 1 (numT 0)).eval with
  | some (a,b)=>if 300<b-a\/300<out.length then none else spanGo rs (out++(upto a (b-a+1).toNat).map numT)
  | none=>spanGo rs out
def endX (o:Option (List Tm)):List Tm × Bool:=match o with
 | none=>([],false)
 | some out=>(out,decide (out.length<=300))
def outX (k:Nat) (n:Int) (s:List UInt8) (rows:List (List Tm)):List Tm × Bool:=if k=6 then endX (spanGo rows []) else endX (some (rows.map fun r=> .mk k n s r))
mutual
def Tm.pl:Tm->List Tm × Bool
 | .mk k n s l=>match Tm.plR l [[]] with
  | none=>([],false)
  | some rows=>outX k n s rows
def Tm.plR:List Tm->List (List Tm)->Option (List (List Tm))
 | [],rows=>some rows
 | a::r,rows=>if a.pl.2=false\/300<rows.length*a.pl.1.length then none else Tm.plR r (rowsX rows a.pl.1)
end
theorem pick_list {α:Type} {P:Nat->α->Prop}: ∀ {n:Nat},(∀ i,i<n-> ∃ y,P i y)-> ∃ r:List α,r.length=n/\ ∀ (i:Nat) (h:i<r.length),P i r[i]
 | 0,_=>⟨[],rfl,fun i h=>by simp at h⟩
 | n+1,h=>by
  obtain⟨r,h1,h2⟩:=pick_list (n:=n) fun i hi=>h i (by omega)
  obtain⟨y,hy⟩:=h n (by omega)
  refine⟨r++[y],by simp[h1],fun i hi=> ?_⟩
  by_cases hi2:i<r.length
  ·rw[List.getElem_append_left hi2]; exact h2 i hi2
  ·have:i=n:=by simp at hi; omega
   subst this
   rw[List.getElem_append_right (by omega)]
   simpa [h1] using hy
theorem evL_iff: ∀ {r vs:List Tm},Tm.evL r=some vs ↔ vs.length=r.length/\ ∀ (i:Nat) (h:i<r.length) (h':i<vs.length),r[i].ev=some vs[i]
 | [],vs=>by
  rw[Tm.evL]
  constructor
  ·intro h; cases h; exact⟨rfl,fun i h=>by simp at h⟩
  ·rintro⟨h,_⟩
   rw[List.length_eq_zero_iff.1 h]
 | a::r,vs=>by
  rw[Tm.evL]
  constructor
  ·intro h
   unfold consO at h
   split at h
   ·rename_i x l h1 h2
    cases h
    obtain⟨h3,h4⟩:=evL_iff.1 h2
    refine⟨by simp[h3],fun i hi hi'=> ?_⟩
    cases i with
    | zero=>exact h1
    | succ i=>exact h4 i (by simpa using hi) (by simpa using hi')
   ·cases h
  ·rintro⟨h1,h2⟩
   cases vs with
   | nil=>simp at h1
   | cons v vs =>
    have h3:=h2 0 (by simp) (by simp)
    have h4:=evL_iff (r:=r) (vs:=vs).2 ⟨by simpa using h1,fun i hi hi'=>by
     have:=h2 (i+1) (by simpa using hi) (by simpa using hi')
     simpa only[List.getElem_cons_succ] using this⟩
    simp only[List.getElem_cons_zero] at h3
    rw[h3,h4]; rfl
theorem nums_iff: ∀ {vs:List Tm} {l:List Int},numsAll vs=some l ↔ l.length=vs.length/\ ∀ (i:Nat) (h:i<vs.length) (h':i<l.length),vs[i].int? = some l[i]
 | [],l=>by
  rw[numsAll]
  constructor
  ·intro h; cases h; exact⟨rfl,fun i h=>by simp at h⟩
  ·rintro⟨h,_⟩
   rw[List.length_eq_zero_iff.1 h]
 | a::r,vs=>by
  rw[numsAll]
  constructor
  ·intro h
   split at h
   ·rename_i x l h1 h2
    cases h
    obtain⟨h3,h4⟩:=nums_iff.1 h2
    refine⟨by simp[h3],fun i hi hi'=> ?_⟩
    cases i with
    | zero=>exact h1
    | succ i=>exact h4 i (by simpa using hi) (by simpa using hi')
   ·cases h
  ·rintro⟨h1,h2⟩
   cases vs with
   | nil=>simp at h1
   | cons v vs =>
    have h3:=h2 0 (by simp) (by simp)
    have h4:=nums_iff (vs:=r) (l:=vs).2 ⟨by simpa using h1,fun i hi hi'=>by
     have:=h2 (i+1) (by simpa using hi) (by simpa using hi')
     simpa only[List.getElem_cons_succ] using this⟩
    simp only[List.getElem_cons_zero] at h3
    rw[h3,h4]
theorem rowsX_mem {rows:List (List Tm)} {p:List Tm} {r:List Tm}:r∈rowsX rows p ↔ ∃ r0∈rows, ∃ x∈p,r=r0++[x]:=by
 unfold rowsX
 rw[List.mem_flatMap]
 constructor
 ·rintro⟨r0,h0,h1⟩
  obtain⟨x,hx,rfl⟩:=List.mem_map.1 h1
  exact⟨r0,h0,x,hx,rfl⟩
 ·rintro⟨r0,h0,x,hx,rfl⟩
  exact⟨r0,h0,List.mem_map.2 ⟨x,hx,rfl⟩⟩
theorem plR_mem: ∀ {l:List Tm} {rows out:List (List Tm)},Tm.plR l rows=some out->(∀ a∈l,a.pl.2=true)/\ ∀ r,r∈out ↔ ∃ r0∈rows, ∃ q,r=r0++q/\q.length=l.length/\ ∀ (i:Nat) (h:i<q.length) (h':i<l.length),q[i]∈l[i].pl.1
 | [],rows,out,h=>by
  rw[Tm.plR] at h
  cases h
  refine⟨(fun a ha=>by cases ha),fun r=>⟨fun hr=>⟨r,hr,[],by simp,rfl,fun i h=>by simp at h⟩, ?_⟩⟩
  rintro⟨r0,h0,q,rfl,hq,_⟩
  rw[List.length_eq_zero_iff.1 hq]; simpa using h0
 | a::l,rows,out,h=>by
  rw[Tm.plR] at h
  split at h
  ·cases h
  ·rename_i hn
   have ha:a.pl.2=true:=by
    cases hq:a.pl.2 with
    | true=>rfl
    | false=>exact absurd (.inl hq) hn
   obtain⟨h1,h2⟩:=plR_mem h
   refine⟨fun b hb=> ?_,fun r=> ?_⟩
   ·rcases List.mem_cons.1 hb with rfl | hb
    ·exact ha
    ·exact h1 b hb
   ·rw[h2]
    constructor
    ·rintro⟨r0,h0,q,rfl,hq,hm⟩
     obtain⟨r1,hr1,x,hx,rfl⟩:=rowsX_mem.1 h0
     refine⟨r1,hr1,x::q,by simp,by simp[hq],fun i hi hi'=> ?_⟩
     cases i with
     | zero=>exact hx
     | succ i=>exact hm i (by simpa using hi) (by simpa using hi')
    ·rintro⟨r0,h0,q,rfl,hq,hm⟩
     cases q with
     | nil=>simp at hq
     | cons x q =>
      refine⟨r0++[x],rowsX_mem.2 ⟨r0,h0,x,hm 0 (by simp) (by simp),rfl⟩,q,by simp,by simpa using hq,fun i hi hi'=> ?_⟩
      have:=hm (i+1) (by simpa using hi) (by simpa using hi')
      simpa only[List.getElem_cons_succ] using this
theorem spanGo_mem: ∀ {rows:List (List Tm)} {out res:List Tm},spanGo rows out=some res-> ∀ y,y∈res ↔ y∈out\/ ∃ r∈rows, ∃ a b n,spanI (r.getD 0 (numT 0)).eval (r.getD 1 (numT 0)).eval=some (a,b)/\a<=n/\n<=b/\y=numT n
 | [],out,res,h,y=>by
  cases h
  simp
 | r::rs,out,res,h,y=>by
  rw[spanGo] at h
  split at h
  ·rename_i a b hs
   split at h
   ·cases h
   ·rw[spanGo_mem h y,List.mem_append]
    constructor
    ·rintro ((h1 | h1) | ⟨q,hq,h1⟩)
     ·exact .inl h1
     ·obtain⟨n,hn,rfl⟩:=List.mem_map.1 h1
      have:=upto_mem.1 hn
      exact .inr ⟨r,List.mem_cons_self ..,a,b,n,hs,by omega,by omega,rfl⟩
     ·exact .inr ⟨q,List.mem_cons_of_mem _ hq,h1⟩
    ·rintro (h1 | ⟨q,hq,a',b',n,h1,h2,h3,h4⟩)
     ·exact .inl (.inl h1)
     ·rcases List.mem_cons.1 hq with rfl | hq
      ·rw[hs] at h1
       cases h1
       exact .inl (.inr (List.mem_map.2 ⟨n,upto_mem.2 ⟨h2,by omega⟩,h4.symm⟩))
      ·exact .inr ⟨q,hq,a',b',n,h1,h2,h3,h4⟩
  ·rename_i hs
   rw[spanGo_mem h y]
   constructor
   ·rintro (h1 | ⟨q,hq,h1⟩)
    ·exact .inl h1
    ·exact .inr ⟨q,List.mem_cons_of_mem _ hq,h1⟩
   ·rintro (h1 | ⟨q,hq,a',b',n,h1,h2⟩)
    ·exact .inl h1
    ·rcases List.mem_cons.1 hq with rfl | hq
     ·rw[hs] at h1; cases h1
     ·exact .inr ⟨q,hq,a',b',n,h1,h2⟩
structure PlS (t y:Tm):Prop where
 shape:y.all Tm.shape=true
 gr:y.all Tm.gr=true
 ns:y.all Tm.ns=true
 depth:y.depth<=t.depth
theorem num_pls {t:Tm} {m:Int} (h:fitsB m=true):PlS t (numT m):=⟨shape_num h,rfl,rfl,by rw[depth_num]; exact depth_pos t⟩
theorem ends_of {o o':Option Tm} {a b:Int} (h:spanI o o'=some (a,b)): ∃ x y,o=some x/\o'=some y/\x.int? = some a/\y.int? = some b:=by
 unfold spanI at h
 split at h
 ·rename_i x y
  split at h
  ·rename_i m n h1 h2
   cases h
   exact⟨x,y,rfl,rfl,h1,h2⟩
  ·cases h
 ·cases h
theorem eval_fits {y v:Tm} {a:Int} (h:y.eval=some v) (hi:v.int? = some a):fitsB a=true:=by
 have:=(eval_value h).1
 unfold Tm.value at this
 simp only[Bool.and_eq_true] at this
 exact int_shape (valid_iff.1 this.2).2 hi
theorem pl_rows {k:Nat} {n:Int} {s:List UInt8} {l all:List Tm} (h:Tm.pl (.mk k n s l)=(all,true)): ∃ rows,Tm.plR l [[]]=some rows/\outX k n s rows=(all,true):=by
 rw[Tm.pl] at h
 cases hr:Tm.plR l [[]] with
 | none=>rw[hr] at h; cases h
 | some rows=>rw[hr] at h; exact⟨rows,rfl,h⟩
theorem rows_mem {l:List Tm} {rows:List (List Tm)} (h:Tm.plR l [[]]=some rows):(∀ a∈l,a.pl.2=true)/\ ∀ r,r∈rows ↔ r.length=l.length/\ ∀ (i:Nat) (h:i<r.length) (h':i<l.length),r[i]∈l[i].pl.1:=by
 obtain⟨h1,h2⟩:=plR_mem h
 refine⟨h1,fun r=> ?_⟩
 rw[h2]
 constructor
 ·rintro⟨r0,h0,q,rfl,hq⟩
  rw[List.mem_singleton.1 h0]
  exact hq
 ·exact fun hq=>⟨[],by simp,r,by simp,hq⟩
theorem outX_ne {k:Nat} {n:Int} {s:List UInt8} {rows:List (List Tm)} {all:List Tm} (hk:k≠6) (h:outX k n s rows=(all,true)):all=rows.map fun r=> .mk k n s r:=by
 unfold outX endX at h
 rw[if_neg hk] at h
 simp only[Prod.mk.injEq] at h
 exact h.1.symm
theorem outX_six {n:Int} {s:List UInt8} {rows:List (List Tm)} {all:List Tm} (h:outX 6 n s rows=(all,true)):spanGo rows []=some all:=by
 unfold outX endX at h
 rw[if_pos rfl] at h
 split at h
 ·cases h
 ·rename_i out ho
  simp only[Prod.mk.injEq] at h
  rw[ho,h.1]
theorem pair_eq {x:Tm} (h:x.pl.2=true):x.pl=(x.pl.1,true):=by
 rw[<- h]
theorem pl_shape: ∀ (t:Tm) (all:List Tm),t.all Tm.shape=true->t.all Tm.gr=true->t.pl=(all,true)-> ∀ y∈all,PlS t y
 | .mk k n s l,all,hs0,hg0,h,y,hy=>by
  have hs:=all_split.1 hs0
  have hg:=all_split.1 hg0
  obtain⟨rows,h1,h2⟩:=pl_rows h
  obtain⟨hp,hm⟩:=rows_mem h1
  have IH: ∀ r∈rows,r.length=l.length/\ ∀ z∈r, ∃ x∈l,PlS x z:=fun r hr=>by
   obtain⟨h3,h4⟩:=(hm r).1 hr
   refine⟨h3,fun z hz=> ?_⟩
   obtain⟨i,hi,rfl⟩:=List.getElem_of_mem hz
   have hmem:l[i]∈l:=List.getElem_mem _
   exact⟨l[i],hmem,pl_shape l[i] l[i].pl.1 (hs.2 _ hmem) (hg.2 _ hmem) (pair_eq (hp _ hmem)) _ (h4 i hi (by omega))⟩
  by_cases hk:k=6
  ·subst hk
   rcases (spanGo_mem (outX_six h2) y).1 hy with h3 | ⟨r,hr,a,b,m,h3,h4,h5,rfl⟩
   ·cases h3
   ·obtain⟨u,v,h6,h7,h8,h9⟩:=ends_of h3
    have f1:=fitsB_iff.1 (eval_fits h6 h8)
    have f2:=fitsB_iff.1 (eval_fits h7 h9)
    exact num_pls (fitsB_iff.2 ⟨by omega,by omega⟩)
  ·rw[outX_ne hk h2] at hy
   obtain⟨r,hr,rfl⟩:=List.mem_map.1 hy
   obtain⟨h3,h4⟩:=IH r hr
   refine⟨?_, ?_, ?_, ?_⟩
   ·rw[all_split]
    refine⟨?_,fun z hz=>(h4 z hz).elim fun x hx=>hx.2.shape⟩
    have:=hs.1
    simp only[Tm.shape] at this ⊢
    rw[h3]; exact this
   ·rw[all_split]
    exact⟨hg.1,fun z hz=>(h4 z hz).elim fun x hx=>hx.2.gr⟩
   ·rw[all_split]
    exact⟨by simp[Tm.ns,hk],fun z hz=>(h4 z hz).elim fun x hx=>hx.2.ns⟩
   ·simp only[Tm.depth]
    have:Tm.depthL r<=Tm.depthL l:=depthL_le fun z hz=>by
     obtain⟨x,hx,hd⟩:=h4 z hz
     exact Nat.le_trans hd.depth (depthL_mem0 hx)
    omega
termination_by t=>SizeOf.sizeOf t
decreasing_by
 have:=List.sizeOf_lt_of_mem hmem
 simp only[Tm.mk.sizeOf_spec]
 omega
theorem foldl_min_le: ∀ (l:List Int) (a:Int),l.foldl min a<=a/\ ∀ x∈l,l.foldl min a<=x
 | [],a=>⟨Int.le_refl _,fun x hx=>by cases hx⟩
 | b::r,a=>by
  obtain⟨h1,h2⟩:=foldl_min_le r (min a b)
  rw[List.foldl_cons]
  refine⟨by omega,fun x hx=> ?_⟩
  rcases List.mem_cons.1 hx with rfl | hx
  ·omega
  ·exact h2 x hx
theorem minI_le {l:List Int} {x:Int} (h:x∈l):minI l<=x:=by
 cases l with
 | nil=>cases h
 | cons a r =>
  obtain⟨h1,h2⟩:=foldl_min_le r a
  rcases List.mem_cons.1 h with rfl | h
  ·exact h1
  ·exact h2 x h
theorem foldl_max_ge: ∀ (l:List Int) (a:Int),a<=l.foldl max a/\ ∀ x∈l,x<=l.foldl max a
 | [],a=>⟨Int.le_refl _,fun x hx=>by cases hx⟩
 | b::r,a=>by
  obtain⟨h1,h2⟩:=foldl_max_ge r (max a b)
  rw[List.foldl_cons]
  refine⟨by omega,fun x hx=> ?_⟩
  rcases List.mem_cons.1 hx with rfl | hx
  ·omega
  ·exact h2 x hx
theorem maxI_ge {l:List Int} {x:Int} (h:x∈l):x<=maxI l:=by
 cases l with
 | nil=>cases h
 | cons a r =>
  obtain⟨h1,h2⟩:=foldl_max_ge r a
  rcases List.mem_cons.1 h with rfl | h
  ·exact h1
  ·exact h2 x h
theorem nums_prod {ps:List (List Tm)} {row:List Int}:row∈prodL (ps.map intsT) ↔ ∃ vs∈prodL ps,numsAll vs=some row:=by
 rw[mem_prodL]
 constructor
 ·rintro⟨h1,h2⟩
  rw[List.length_map] at h1
  obtain⟨vs,h3,h4⟩:=pick_list (n:=row.length) (P:=fun i y=> ∃ (hi:i<ps.length) (hv:i<row.length),y∈ps[i]/\y.int? = some row[i]) fun i hi=>by
   have:=h2 i hi (by rw[List.length_map]; omega)
   rw[List.getElem_map] at this
   obtain⟨x,hx,hxi⟩:=intsT_mem.1 this
   exact⟨x,by omega,hi,hx,hxi⟩
  refine⟨vs,mem_prodL.2 ⟨by omega,fun i hi hi'=> ?_⟩,nums_iff.2 ⟨by omega,fun i hi hi'=> ?_⟩⟩
  ·obtain⟨_,_,q,_⟩:=h4 i hi; exact q
  ·obtain⟨_,_,_,q⟩:=h4 i hi; exact q
 ·rintro⟨vs,h1,h2⟩
  obtain⟨h3,h4⟩:=mem_prodL.1 h1
  obtain⟨h5,h6⟩:=nums_iff.1 h2
  refine⟨by rw[List.length_map]; omega,fun i hi hi'=> ?_⟩
  rw[List.length_map] at hi'
  rw[List.getElem_map]
  exact intsT_mem.2 ⟨vs[i],h4 i (by omega) hi',h6 i (by omega) hi⟩
theorem pls_eval {t y:Tm} (h:PlS t y) (hd:t.depth<=12):y.eval=y.ev:=eval_of (valid_iff.2 ⟨Nat.le_trans h.depth hd,h.shape⟩) h.gr h.ns
theorem pl_ok: ∀ (t:Tm) (all L:List Tm),t.all Tm.shape=true->t.all Tm.gr=true->t.depth<=12->t.pl=(all,true)->t.xp=some L-> ∀ v,v∈L ↔ ∃ y∈all,y.ev=some v
 | .mk k n s l,all,L,hs0,hg0,hd,h,hx,v=>by
  have hs:=all_split.1 hs0
  have hg:=all_split.1 hg0
  obtain⟨rows,h1,h2⟩:=pl_rows h
  obtain⟨hp,hm⟩:=rows_mem h1
  rw[Tm.xp] at hx
  split at hx
  ·rename_i he
   have he:l=[]:=List.isEmpty_iff.1 he
   subst he
   cases hx
   have hk:k≠6:=fun e=>by subst e; have:=shape_six hs.1; cases this
   have hr:rows=[[]]:=by rw[Tm.plR] at h1; cases h1; rfl
   rw[outX_ne hk h2,hr]
   simp only[List.map_cons,List.map_nil,List.mem_singleton,exists_eq_left]
   have e:(Tm.mk k n s []).ev=some (.mk k n s []):=rfl
   rw[e]
   exact⟨fun e=>by rw[e],fun e=>by cases e; rfl⟩
  ·rename_i he
   have he:l≠[]:=fun e=>he (by rw[e]; rfl)
   cases hps:Tm.xpL l with
   | none=>rw[hps] at hx; cases hx
   | some ps =>
    rw[hps] at hx
    have hlen:=xpL_len hps
    simp only[Tm.depth] at hd
    have IH: ∀ (i:Nat) (hi:i<l.length) (hi':i<ps.length), ∀ v,v∈ps[i] ↔ ∃ y∈l[i].pl.1,y.ev=some v:=fun i hi hi'=>by
     have hmem:l[i]∈l:=List.getElem_mem hi
     have hdi:l[i].depth<=12:=by
      have:=depthL_mem0 hmem
      omega
     exact pl_ok l[i] l[i].pl.1 ps[i] (hs.2 _ hmem) (hg.2 _ hmem) hdi (pair_eq (hp _ hmem)) (xpL_get hps i hi hi')
    have key: ∀ vs:List Tm,vs∈prodL ps ↔ ∃ r∈rows,Tm.evL r=some vs:=fun vs=>by
     rw[mem_prodL]
     constructor
     ·rintro⟨h3,h4⟩
      obtain⟨r,h5,h6⟩:=pick_list (n:=l.length) (P:=fun i y=> ∃ (hi:i<l.length) (hv:i<vs.length),y∈l[i].pl.1/\y.ev=some vs[i]) fun i hi=>by
       obtain⟨y,hy,hye⟩:=(IH i hi (by omega) vs[i]).1 (h4 i (by omega) (by omega))
       exact⟨y,hi,by omega,hy,hye⟩
      refine⟨r,(hm r).2 ⟨h5,fun i hi hi'=> ?_⟩,evL_iff.2 ⟨by omega,fun i hi hi'=> ?_⟩⟩
      ·obtain⟨_,_,q,_⟩:=h6 i hi; exact q
      ·obtain⟨_,_,_,q⟩:=h6 i hi; exact q
     ·rintro⟨r,hr,hev⟩
      obtain⟨h3,h4⟩:=(hm r).1 hr
      obtain⟨h5,h6⟩:=evL_iff.1 hev
      exact⟨by omega,fun i hi hi'=>(IH i (by omega) hi' vs[i]).2 ⟨r[i],h4 i (by omega) (by omega),h6 i (by omega) hi⟩⟩
    have rne: ∀ r∈rows,r.isEmpty=false:=fun r hr=>by
     have:=((hm r).1 hr).1
     cases r with
     | nil=>exact absurd (List.length_eq_zero_iff.1 this.symm) he
     | cons a q=>rfl
    by_cases h6:k=6
    ·subst h6
     have h2l:=shape_six hs.1
     have hev: ∀ r∈rows, ∀ (i:Nat) (hi:i<2), ∃ (h0:i<l.length) (h1:i<r.length),r.getD i (numT 0)=r[i]/\r[i]∈l[i].pl.1/\r[i].eval=r[i].ev:=fun r hr i hi=>by
      obtain⟨h3,h4⟩:=(hm r).1 hr
      have hmem:l[i]∈l:=List.getElem_mem (by omega)
      have h5:=h4 i (by omega) (by omega)
      refine⟨by omega,by omega,by simp[show i<r.length by omega],h5, ?_⟩
      have hdi:=depthL_mem0 hmem
      exact pls_eval (pl_shape l[i] l[i].pl.1 (hs.2 _ hmem) (hg.2 _ hmem) (pair_eq (hp _ hmem)) _ h5) (by omega)
     simp only[xpK,if_true] at hx
     cases hq:ivl (intsT (ps.getD 0 [])) (intsT (ps.getD 1 [])) with
     | none=>rw[hq] at hx; cases hx
     | some q =>
      rw[hq] at hx
      cases hx
      have g: ∀ (i:Nat) (h:i<ps.length),ps.getD i []=ps[i]:=fun i h=>by simp[h]
      rw[g 0 (by omega),g 1 (by omega)] at hq
      rw[List.mem_map]
      constructor
      ·rintro⟨m,hmq,rfl⟩
       have hlo:intsT ps[0]≠[]/\intsT ps[1]≠[]/\minI (intsT ps[0])<=m/\m<=maxI (intsT ps[1]):=by
        unfold ivl at hq
        split at hq
        ·cases hq; cases hmq
        ·rename_i hn
         split at hq
         ·cases hq
          have:=upto_mem.1 hmq
          exact⟨fun e=>hn (.inl (by rw[e]; rfl)),fun e=>hn (.inr (by rw[e]; rfl)),by omega,by omega⟩
         ·cases hq
       obtain⟨x,hx,hxi⟩:=intsT_mem.1 (minI_mem hlo.1)
       obtain⟨y,hy,hyi⟩:=intsT_mem.1 (maxI_mem hlo.2.1)
       obtain⟨x',hx',hxe⟩:=(IH 0 (by omega) (by omega) x).1 hx
       obtain⟨y',hy',hye⟩:=(IH 1 (by omega) (by omega) y).1 hy
       have hr:[x',y']∈rows:=(hm _).2 ⟨by simp[h2l],fun i hi hi'=>by
        match i,hi with
        | 0,_=>exact hx'
        | 1,_=>exact hy'⟩
       obtain⟨_,_,e1,_,e2⟩:=hev _ hr 0 (by omega)
       obtain⟨_,_,e3,_,e4⟩:=hev _ hr 1 (by omega)
       refine⟨numT m,(spanGo_mem (outX_six h2) _).2 (.inr ⟨_,hr,_,_,m, ?_,hlo.2.2.1,hlo.2.2.2,rfl⟩),rfl⟩
       rw[e1,e2,e3,e4]
       simp only[List.getElem_cons_zero,List.getElem_cons_succ]
       rw[hxe,hye]
       simp only[spanI,hxi,hyi]
      ·rintro⟨y,hy,hye⟩
       rcases (spanGo_mem (outX_six h2) y).1 hy with h3 | ⟨r,hr,a,b,m,h3,h4,h5,rfl⟩
       ·cases h3
       ·cases hye
        obtain⟨u,w,h7,h8,h9,h10⟩:=ends_of h3
        obtain⟨_,_,e1,e2,e3⟩:=hev _ hr 0 (by omega)
        obtain⟨_,_,e4,e5,e6⟩:=hev _ hr 1 (by omega)
        rw[e1,e3] at h7
        rw[e4,e6] at h8
        have q1:=(IH 0 (by omega) (by omega) u).2 ⟨_,e2,h7⟩
        have q2:=(IH 1 (by omega) (by omega) w).2 ⟨_,e5,h8⟩
        have m1:=intsT_mem.2 ⟨u,q1,h9⟩
        have m2:=intsT_mem.2 ⟨w,q2,h10⟩
        refine⟨m, ?_,rfl⟩
        have l1:=minI_le m1
        have l2:=maxI_ge m2
        unfold ivl at hq
        split at hq
        ·rename_i hn
         rcases hn with hn | hn
         ·rw[List.isEmpty_iff.1 hn] at m1; cases m1
         ·rw[List.isEmpty_iff.1 hn] at m2; cases m2
        ·split at hq
         ·cases hq
          exact upto_mem.2 ⟨by omega,by omega⟩
         ·cases hq
    ·rw[outX_ne h6 h2]
     have rhs:(∃ y∈rows.map fun r=>Tm.mk k n s r,y.ev=some v) ↔ ∃ vs∈prodL ps,evK k s (some vs)=some v:=by
      constructor
      ·rintro⟨y,hy,hye⟩
       obtain⟨r,hr,rfl⟩:=List.mem_map.1 hy
       rw[Tm.ev,rne r hr,if_neg (by simp)] at hye
       cases hev:Tm.evL r with
       | none=>rw[hev] at hye; cases hye
       | some vs =>
        rw[hev] at hye
        exact⟨vs,(key vs).2 ⟨r,hr,hev⟩,hye⟩
      ·rintro⟨vs,hvs,hve⟩
       obtain⟨r,hr,hev⟩:=(key vs).1 hvs
       refine⟨_,List.mem_map.2 ⟨r,hr,rfl⟩, ?_⟩
       rw[Tm.ev,rne r hr,if_neg (by simp),hev]
       exact hve
     rw[rhs]
     simp only[xpK] at hx
     rw[if_neg h6] at hx
     by_cases h5:k=5
     ·subst h5
      rw[if_pos rfl] at hx
      unfold opX at hx
      split at hx
      ·cases hx
       rw[List.mem_map]
       simp only[evK,if_true]
       constructor
       ·rintro⟨m,hmm,rfl⟩
        obtain⟨row,hrow,hc⟩:=opF_mem.1 (sortI_mem.1 hmm)
        obtain⟨vs,hvs,hn⟩:=nums_prod.1 hrow
        refine⟨vs,hvs, ?_⟩
        rw[hn]
        simp only[hc,Option.map_some]
       ·rintro⟨vs,hvs,hve⟩
        split at hve
        ·rename_i row hn
         cases hc:calcR s row with
         | none=>rw[hc] at hve; cases hve
         | some m =>
          rw[hc] at hve
          cases hve
          exact⟨m,sortI_mem.2 (opF_mem.2 ⟨row,nums_prod.2 ⟨vs,hvs,hn⟩,hc⟩),rfl⟩
        ·cases hve
      ·cases hx
     ·rw[if_neg h5] at hx
      simp only[evK,if_neg h5,Option.some.injEq]
      unfold fnX at hx
      split at hx
      ·rename_i hany
       cases hx
       refine⟨(fun h=>by cases h), ?_⟩
       rintro⟨vs,hvs,_⟩
       obtain⟨h3,h4⟩:=mem_prodL.1 hvs
       obtain⟨p,hpp,hpe⟩:=List.any_eq_true.1 hany
       obtain⟨i,hi,rfl⟩:=List.getElem_of_mem hpp
       have:=h4 i (by omega) hi
       rw[List.isEmpty_iff.1 hpe] at this
       cases this
      ·split at hx
       ·cases hx
        rw[List.mem_map]
       ·cases hx
termination_by t=>SizeOf.sizeOf t
decreasing_by
 have:=List.sizeOf_lt_of_mem hmem
 simp only[Tm.mk.sizeOf_spec]
 omega
theorem cmp_same (x:Tm):x.cmp x=0:=by
 have h:=eqb_eq.2 (rfl:x=x)
 rw[eqb_cmp] at h
 exact of_decide_eq_true h
theorem cmp_nums {a b:Int} (h:a<b):(numT a).cmp (numT b)= -1:=by
 have h0:ncmp (rkI 1) (rkI 1)=0:=rfl
 have h1:ncmp a b= -1:=by unfold ncmp; rw[if_pos h]
 simp[numT,Tm.cmp,fst0,h0,h1]
theorem cmp_funs {s:List UInt8} {r q:List Tm} (hl:r.length=q.length) (h:Tm.cmpL r q= -1):(Tm.mk 4 0 s r).cmp (.mk 4 0 s q)= -1:=by
 have h0:ncmp (rkI 4) (rkI 4)=0:=rfl
 have h1:ncmp (r.length:Int) (q.length:Int)=0:=by rw[hl]; unfold ncmp; simp
 have h2:Lib.compareBytes s s=0:=bcmp_eq.2 rfl
 simp[Tm.cmp,fst0,h0,h1,h2,h]
theorem prodL_incr: ∀ {ps:List (List Tm)},(∀ p∈ps,p.Pairwise fun a b=>a.cmp b= -1)->(prodL ps).Pairwise fun a b=>Tm.cmpL a b= -1
 | [],_=>by simp[prodL]
 | l::ls,h=>by
  have ih:=prodL_incr (ps:=ls) fun p hp=>h p (List.mem_cons_of_mem _ hp)
  have hl:=h l (List.mem_cons_self ..)
  rw[prodL,List.pairwise_flatMap]
  refine⟨fun x hx=> ?_,hl.imp fun {a b} hab x hx y hy=> ?_⟩
  ·rw[List.pairwise_map]
   refine ih.imp fun {a b} hab=> ?_
   rw[Tm.cmpL,if_neg (by rw[cmp_same]; decide)]
   exact hab
  ·obtain⟨q,_,rfl⟩:=List.mem_map.1 hx
   obtain⟨w,_,rfl⟩:=List.mem_map.1 hy
   rw[Tm.cmpL,if_pos (by rw[hab]; decide)]
   exact hab
theorem xp_incr: ∀ (t:Tm) (L:List Tm),t.xp=some L->L.Pairwise fun a b=>a.cmp b= -1
 | .mk k n s l,L,h=>by
  rw[Tm.xp] at h
  split at h
  ·cases h; simp
  ·cases hps:Tm.xpL l with
   | none=>rw[hps] at h; cases h
   | some ps =>
    rw[hps] at h
    have IH: ∀ p∈ps,p.Pairwise fun a b=>a.cmp b= -1:=fun p hp=>by
     obtain⟨x,hx,hxe⟩:=xpL_mem hps hp
     exact xp_incr x p hxe
    have num: ∀ q:List Int,q.Pairwise (· < ·)->(q.map numT).Pairwise fun a b=>a.cmp b= -1:=fun q hq=>by
     rw[List.pairwise_map]
     exact hq.imp fun h=>cmp_nums h
    simp only[xpK] at h
    split at h
    ·cases hq:ivl (intsT (ps.getD 0 [])) (intsT (ps.getD 1 [])) with
     | none=>rw[hq] at h; cases h
     | some q=>rw[hq] at h; cases h; exact num q (ivl_lt hq)
    ·split at h
     ·unfold opX at h
      split at h
      ·cases h; exact num _ (sortI_lt _)
      ·cases h
     ·unfold fnX at h
      split at h
      ·cases h; exact List.Pairwise.nil
      ·split at h
       ·cases h
        rw[List.pairwise_map]
        refine (prodL_incr IH).imp_of_mem fun {a b} ha hb hab=>cmp_funs ?_ hab
        rw[(mem_prodL.1 ha).1,(mem_prodL.1 hb).1]
       ·cases h
termination_by t=>SizeOf.sizeOf t
decreasing_by
 have:=List.sizeOf_lt_of_mem hx
 simp only[Tm.mk.sizeOf_spec]
 omega
theorem pl_len {t:Tm} {all:List Tm} (h:t.pl=(all,true)):all.length<=300:=by
 obtain⟨k,n,s,l⟩:=t
 obtain⟨rows,_,h2⟩:=pl_rows h
 have e: ∀ o:Option (List Tm),endX o=(all,true)->all.length<=300:=fun o ho=>by
  unfold endX at ho
  split at ho
  ·cases ho
  ·simp only[Prod.mk.injEq,decide_eq_true_eq] at ho
   rw[<- ho.1]; exact ho.2
 unfold outX at h2
 split at h2
 ·exact e _ h2
 ·exact e _ h2
theorem pl_wf: ∀ (t:Tm) (all:List Tm),t.wf 281474976710656->t.all Tm.shape=true->t.all Tm.gr=true->t.pl=(all,true)-> ∀ y∈all,y.wf 281474976710656
 | .mk k n s l,all,hw0,hs0,hg0,h,y,hy=>by
  have hs:=all_split.1 hs0
  have hg:=all_split.1 hg0
  have hw:=hw0
  simp only[Tm.wf] at hw
  obtain⟨hk,hn1,hn2,hsl,hl,hwl⟩:=hw
  have hP:=pl_shape (.mk k n s l) all hs0 hg0 h y hy
  obtain⟨rows,h1,h2⟩:=pl_rows h
  obtain⟨hp,hm⟩:=rows_mem h1
  by_cases h6:k=6
  ·subst h6
   rcases (spanGo_mem (outX_six h2) y).1 hy with h3 | ⟨r,hr,a,b,m,h3,h4,h5,rfl⟩
   ·cases h3
   ·exact numT_wf (int_shape hP.shape (by simp[numT,Tm.int?]))
  ·rw[outX_ne h6 h2] at hy
   obtain⟨r,hr,rfl⟩:=List.mem_map.1 hy
   obtain⟨h3,h4⟩:=(hm r).1 hr
   simp only[Tm.wf]
   refine⟨hk,hn1,hn2,hsl,by omega,wfL_all.2 fun z hz=> ?_⟩
   obtain⟨i,hi,rfl⟩:=List.getElem_of_mem hz
   have hmem:l[i]∈l:=List.getElem_mem _
   exact pl_wf l[i] l[i].pl.1 (wfL_all.1 hwl _ hmem) (hs.2 _ hmem) (hg.2 _ hmem) (pair_eq (hp _ hmem)) _ (h4 i hi (by omega))
termination_by t=>SizeOf.sizeOf t
decreasing_by
 have:=List.sizeOf_lt_of_mem hmem
 simp only[Tm.mk.sizeOf_spec]
 omega
theorem rowsX_take {rows:List (List Tm)} {p:List Tm} {i:Nat} (h:i<rows.length):rowsX (rows.take (i+1)) p=rowsX (rows.take i) p++p.map fun x=>rows[i]++[x]:=by
 unfold rowsX
 rw[List.take_add_one,List.getElem?_eq_getElem h,Option.toList_some,List.flatMap_append]
 simp
theorem rowsX_len {rows:List (List Tm)} {p:List Tm}:(rowsX rows p).length=rows.length*p.length:=by
 unfold rowsX
 induction rows with
 | nil=>simp
 | cons r rs ih=>rw[List.flatMap_cons,List.length_append,List.length_map,ih,List.length_cons,Nat.add_mul]; omega
end Go.Sx

/- RESULTS KEPT: a table of calls that have been worked out. -/
namespace Go.Sx
mutual
def dEq:D->D->Bool
 | .int k a,.int k' b=>decide (k=k') && decide (a=b)
 | .str a,.str b=>decide (a=b)
 | .bool a,.bool b=>a == b
 | .slice a x,.slice b y=>dEqLL a b && dEqLL x y
 | .agg a,.agg b=>dEqL a b
 | _,_=>false
def dEqL:List D->List D->Bool
 | [],[]=>true
 | a::r,b::q=>dEq a b && dEqL r q
 | _,_=>false
def dEqLL:List (List D)->List (List D)->Bool
 | [],[]=>true
 | a::r,b::q=>dEqL a b && dEqLL r q
 | _,_=>false
end
mutual
theorem dEq_ok: ∀ a b:D,dEq a b=true->a=b
 | .int k a,b,h=>by
  cases b <;> simp[dEq] at h
  rw[h.1,h.2]
 | .str a,b,h=>by
  cases b <;> simp[dEq] at h
  rw[h]
 | .bool a,b,h=>by
  cases b <;> simp[dEq] at h
  rw[h]
 | .slice a x,b,h=>by
  cases b <;> simp[dEq] at h
  rw[dEqLL_ok a _ h.1,dEqLL_ok x _ h.2]
 | .agg a,b,h=>by
  cases b <;> simp[dEq] at h
  rw[dEqL_ok a _ h]
 | .undef,b,h=>by cases b <;> simp[dEq] at h
 | .nilp,b,h=>by cases b <;> simp[dEq] at h
 | .nilf,b,h=>by cases b <;> simp[dEq] at h
 | .tuple _,b,h=>by cases b <;> simp[dEq] at h
 | .ptr _ _,b,h=>by cases b <;> simp[dEq] at h
 | .fptr _,b,h=>by cases b <;> simp[dEq] at h
 | .vec _,b,h=>by cases b <;> simp[dEq] at h
 | .vptr _ _ _ _,b,h=>by cases b <;> simp[dEq] at h
 | .vwin _ _ _,b,h=>by cases b <;> simp[dEq] at h
 | .map _,b,h=>by cases b <;> simp[dEq] at h
 | .func _ _ _,b,h=>by cases b <;> simp[dEq] at h
 | .raw _,b,h=>by cases b <;> simp[dEq] at h
 | .nils,b,h=>by cases b <;> simp[dEq] at h
 | .own _ _ _,b,h=>by cases b <;> simp[dEq] at h
 | .yld _,b,h=>by cases b <;> simp[dEq] at h
 | .ifc,b,h=>by cases b <;> simp[dEq] at h
 | .pan _,b,h=>by cases b <;> simp[dEq] at h
theorem dEqL_ok: ∀ a b:List D,dEqL a b=true->a=b
 | [],[],_=>rfl
 | [],_::_,h=>by simp[dEqL] at h
 | _::_,[],h=>by simp[dEqL] at h
 | a::r,b::q,h=>by
  simp only[dEqL,Bool.and_eq_true] at h
  rw[dEq_ok a b h.1,dEqL_ok r q h.2]
theorem dEqLL_ok: ∀ a b:List (List D),dEqLL a b=true->a=b
 | [],[],_=>rfl
 | [],_::_,h=>by simp[dEqLL] at h
 | _::_,[],h=>by simp[dEqLL] at h
 | a::r,b::q,h=>by
  simp only[dEqLL,Bool.and_eq_true] at h
  rw[dEqL_ok a b h.1,dEqLL_ok r q h.2]
end
abbrev Memo:=List (FuncId × List D × D)
def memoF:Memo->FuncId->List D->Option D
 | [],_,_=>none
 | (g,ys,r)::l,f,xs=>if f=g/\dEqL xs ys=true then some r else memoF l f xs
section
variable [Globs] [Codes]
def Memo.OK (P:Program):Memo->Prop
 | []=>True
 | (g,ys,r)::l=>FnOK P g ys r/\Memo.OK P l
theorem memoF_ok {P:Program}: ∀ {l:Memo},l.OK P-> ∀ {f:FuncId} {xs:List D} {r:D},memoF l f xs=some r->FnOK P f xs r
 | [],_,_,_,_,h=>by cases h
 | (g,ys,r0)::l,hl,f,xs,r,h=>by
  simp only[memoF] at h
  split at h
  ·rename_i hc
   cases h
   rw[hc.1,dEqL_ok _ _ hc.2]
   exact hl.1
  ·exact memoF_ok hl.2 h
def Tab.mem (t:Tab) (l:Memo):Tab:={ t with F:=fun f xs=>match memoF l f xs with
 | some r=>some r
 | none=>t.F f xs }
theorem Tab.OK.mem_ok {P:Program} {t:Tab} (ht:t.OK P) {l:Memo} (hl:l.OK P):(t.mem l).OK P:=by
 refine⟨ht.T,ht.C,fun f xs r h=> ?_⟩
 simp only[Tab.mem] at h
 split at h
 ·cases h; exact memoF_ok hl (by assumption)
 ·exact ht.F f xs r h
end
end Go.Sx
