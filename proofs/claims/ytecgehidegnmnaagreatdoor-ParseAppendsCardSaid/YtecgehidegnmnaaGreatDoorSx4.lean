/- Own work: a layer over the kit: plain data,a walk over it,its soundness. -/
import Derived.Test.YtecgehidegnmnaaGreatDoorSx3
set_option linter.unusedSectionVars false
set_option linter.unusedVariables false
set_option linter.unusedSimpArgs false
set_option linter.deprecated false
namespace Go.Sx
open Go.RowKit
variable [Globs] [Codes]
section
variable {P:Program} {F:Fence} {n:Nat}
theorem func_inv {φ:Mem} {h:Nat->Value} {v:Value} {f:Fn} {a c:List D} (r:RV φ h v (.func f a c)): ∃ va vc:Array Value,v= .func f va vc/\va.size=a.length/\vc.size=c.length ∧
  (∀ j d,a[j]? = some d->RV φ h (va.getD j Go.undef) d)/\ ∀ j d,c[j]? = some d->RV φ h (vc.getD j Go.undef) d:=by
 cases r with
 | pure r=>cases r
 | func _ vf vc _ _ hf hc h1 h2=>exact⟨vf,vc,rfl,hf,hc,h1,h2⟩
theorem Qf {f:FuncId} {va vc vs:Array Value} {w:World} (hp:QE P f=true):(Z4C (.func (.func f) va vc) vs).run P w= .ok (.enter f (va++vs++vc)) w:=by
 obtain⟨fn,hf,hb,hn⟩:=Z1b hp
 simp only[Z4C,Deferred.ofValue,invoke,Sem.run_bind,Sem.run_pure,Result.andThen_ok,callFunc,run_program,hf,hn,hb,Bool.false_eq_true,if_false]
theorem Z52 [CodesOf P] (hF:Fence.Open F) {cx:Cx} (hgl:GlobC cx.φ0 cx.w0 cx.Z) (hro:InRound F cx) {ds:List Deferred} {ps:Array Tmp} {hi:Hints} {g:Operand} {ca cb:Code} {g':X} {a b:SC} (hg:Qj g=some g') (ha:ZN P cx.N hi ca=some a) (hb:ZN P cx.N hi cb=some b)
  {Q:Exit->St->Prop} {s:St} {φ:Mem} {h:Nat->Value} {tmps:Array Value} {w:World} (hm:Mod cx s φ h tmps w) (hs:sw P cx.bs (.rangeF cx.N g' ps a b) Q s) :
  (Code.rangeFunc g ps ca cb).wpIn F n P (PostM cx ds Q) ⟨tmps,ds⟩ w:=by
 obtain⟨nm,R,hnd,hin,⟨f,fa,fc,hgf,hpf⟩,hcall,hK⟩:=hs
 generalize hrid:s.nx cx.bs=rid at *
 have h3:cx.bs<=rid:=by rw[<- hrid]; exact Nat.le_max_left _ _
 have htop:s.top<=rid:=by rw[<- hrid]; exact Nat.le_max_right _ _
 have h4:Env.top s.tm<=rid:=Nat.le_trans (Nat.le_max_left _ _) htop
 have h6:Obs.top s.ob<=rid:=Nat.le_trans (Nat.le_max_right _ _) htop
 refine wpIn_rangeFunc fun fn hfn=> ?_
 -- the record is laid
 have lay: ∃ (l:Nat) (ms:List Nat) (w1:World) (r0:Loop),(ms.Nodup/\ ∀ b∈ms,cx.kp b=none/\cx.w0.heap.size<=b)/\(Instr.enterLoop fn tmps ps ca cb F.round).run P w= .ok (l,ms.map mkd) w1/\Mod (cx.more ms) s φ h tmps w1 ∧
   Mod (cx.more ms) ⟨s.tm,(rid,recd P .ready none cx.N ps a b s.tm)::s.ob⟩ φ (updH h rid (.pointer (some ⟨l,0,none⟩))) tmps w1:=by
  have hct: ∀ t d,lk s.tm t=some d->D.men rid d=false:=fun t d hd=>D.top_men rid d (Env.top_get h4 hd)
  have hco: ∀ t o,lk s.ob t=some o->Ob.men rid o=false:=fun t o ho=>(Obs.top_men h6 ho).2
  have newrec: ∀ {cx2:Cx} {w2:World} {r0:Loop},cx2.bs=cx.bs->Mod cx2 s φ h tmps w2->r0.state= .ready->r0.pending=none->r0.params=ps->r0.assign=ca->r0.body=cb->r0.tmps=tmps →
    Mod cx2 ⟨s.tm,(rid,recd P .ready none cx.N ps a b s.tm)::s.ob⟩ φ (updH h rid (.pointer (some ⟨w2.heap.size,0,none⟩))) tmps (w2.alloc (.loop r0)):=fun {cx2 w2 r0} hbs hm2 q1 q2 q3 q4 q5 q6=>by
   refine hm2.newOb (by rw[hbs]; exact h3) hct hco rfl ((Below.refl _ w2).alloc (Nat.le_refl _) _) ?_
   refine⟨w2.heap.size,(s.tm.map (·.1)).map fun t=>tmps.getD t Go.undef,.loop r0,rfl,Nat.le_refl _,World.alloc_heap_new w2 _,⟨⟨_,rfl⟩,r0,rfl,q1,q2,q3, ?_, ?_, ?_,by rw[q6]⟩,by simp,fun j d hd=> ?_,fun off=> ?_⟩
   ·rw[q4]; exact (CodesOf.ci (P:=P) _ _ _).2 ⟨hi,ha⟩
   ·rw[q5]; exact (CodesOf.ci (P:=P) _ _ _).2 ⟨hi,hb⟩
   ·rw[q6]; exact hm.size
   ·simp only[List.getElem?_map] at hd
    cases hq:s.tm[j]? with
    | none=>rw[hq] at hd; cases hd
    | some p =>
     rw[hq] at hd
     simp only[Option.map_some,Option.some.injEq] at hd
     subst hd
     simp only[List.map_map,List.getD,List.getElem?_map,hq,Option.map_some,Option.getD_some,Function.comp]
     have:RV φ h (tmps.getD p.1 Go.undef) ((lk s.tm p.1).getD .undef):=by
      cases hl:lk s.tm p.1 with
      | none=>exact .undef _
      | some d=>exact hm.tm p.1 d hl
     exact this.under (get?_lk_top h4 p.1) fun i hi=>Zj _ _ (by omega)
   ·cases hq:φ w2.heap.size off with
    | none=>rfl
    | some v=>exact absurd (Sub.lt hm2.mem hq) (by omega)
  cases hr:F.round with
  | none =>
   have hmk:=hm.mark
   refine⟨w.heap.size+1,[w.heap.size],_,{ state:= .ready,pending:=none,fn,tmps,params:=ps,assign:=ca,body:=cb,defers:=w.heap.size },⟨by simp, ?_⟩,run_enterLoop_outer _ _ _ _ _, ?_, ?_⟩
   ·intro b hb
    simp only[List.mem_singleton] at hb
    subst hb
    refine⟨?_,hm.grow⟩
    cases hq:cx.kp w.heap.size with
    | none=>rfl
    | some o=>exact absurd (Array.getElem?_eq_some_iff.1 (hm.kept _ o hq).1).1 (by omega)
   ·have hb:=(Below.refl _ (w.alloc (.deferred (some [])))).alloc (Nat.le_refl _) (.loop { state:= .ready,pending:=none,fn,tmps,params:=ps,assign:=ca,body:=cb,defers:=w.heap.size })
    exact hmk.grown hb (fun _ _ _ h=>h) (fun b o v hv=>by rw[hb.cell (p:=⟨b,o,none⟩) (Sub.lt hmk.mem hv)]; exact hmk.mem b o v hv) (fun _ _ _ h h'=>by rw[h] at h'; cases h')
   ·have:=newrec (cx2:=cx.more [w.heap.size]) (r0:={ state:= .ready,pending:=none,fn,tmps,params:=ps,assign:=ca,body:=cb,defers:=w.heap.size }) rfl hmk rfl rfl rfl rfl rfl rfl
    rw[World.size_alloc] at this
    exact this
  | some l0 =>
   obtain⟨r,hkr⟩:=hro l0 hr
   have hl0:=(hm.kept l0 _ hkr).1
   refine⟨w.heap.size,[],w.alloc (.loop { state:= .ready,pending:=none,fn,tmps,params:=ps,assign:=ca,body:=cb,defers:=r.defers }),{ state:= .ready,pending:=none,fn,tmps,params:=ps,assign:=ca,body:=cb,defers:=r.defers },⟨by simp,by simp⟩, ?_, ?_, ?_⟩
   ·unfold Instr.enterLoop
    simp only[Sem.run_bind,run_getLoop hl0,Result.andThen,Sem.run_pure,run_newObj_alloc,List.map_nil]
   ·rw[Cx.more_nil]
    have hb:=(Below.refl _ w).alloc (Nat.le_refl _) (.loop { state:= .ready,pending:=none,fn,tmps,params:=ps,assign:=ca,body:=cb,defers:=r.defers })
    exact hm.grown hb (fun _ _ _ h=>h) (fun b o v hv=>by rw[hb.cell (p:=⟨b,o,none⟩) (Sub.lt hm.mem hv)]; exact hm.mem b o v hv) (fun _ _ _ h h'=>by rw[h] at h'; cases h')
   ·rw[Cx.more_nil]
    exact newrec rfl hm rfl rfl rfl rfl rfl rfl
 obtain⟨l,ms,w1,r0,hnd',henter,hm0,hm1⟩:=lay
 -- the value that is called
 have hgl':GlobC (cx.more ms).φ0 (cx.more ms).w0 (cx.more ms).Z:=hgl
 have hgv:=hm0.get hgl' (ds:=ds) hg
 rw[hgf] at hgv
 obtain⟨va,vc,hve,_,_,_,_⟩:=func_inv hgv
 have hlink:=Qf (P:=P) (va:=va) (vc:=vc) (vs:= #[.func (.yield l) #[] #[]]) (w:=w1) hpf
 have htop1:St.top ⟨s.tm,(rid,recd P .ready none cx.N ps a b s.tm)::s.ob⟩<=rid+1:=by
  simp only[St.top,Obs.top]
  have:=Zc4 (P:=P) (st:= .ready) (pend:=none) (N:=cx.N) (ps:=ps) (a:=a) (b:=b) h4
  omega
 have hgv2:RV φ (updH h rid (.pointer (some ⟨l,0,none⟩))) (Act.eval ⟨tmps,ds⟩ g) (s.get g'):=by
  have:=hm0.get hgl' (ds:=ds) hg
  refine this.under (n:=rid) ?_ (fun i hi=>Zj _ _ (by omega))
  cases g' with
  | t t=>exact get?_lk_top h4 t
  | c d =>
   cases g with
   | tmp t=>cases hg
   | const v=>cases hg; exact Z8p v rid
   | func f=>cases hg; simp[St.get,D.top,D.topL]
   | global g =>
    cases hg
    simp only[St.get,glx]
    cases hq:Globs.G g <;> exact Nat.zero_le _
 have hyl:RV φ (updH h rid (.pointer (some ⟨l,0,none⟩))) (.func (.yield l) #[] #[]) (.yld rid):= .yld rid l (Zw _ _ _)
 have hout:=hcall F hF (n-1) φ _ w1 (Act.eval ⟨tmps,ds⟩ g) #[.func (.yield l) #[] #[]] (hm1.loc (hm1.glob hgl') hnd) (Z1a hgv2) ⟨Z1a hyl,trivial⟩
 rw[hve] at hout
 rw[hlink] at hout
 refine⟨l,ms.map mkd,w1,{ target:= .fn (.func f) vc,args:=va++ #[.func (.yield l) #[] #[]] },w1,f,va++ #[.func (.yield l) #[] #[]]++vc,w1,henter, ?_, ?_, ?_, ?_, ?_⟩
 ·have e:(rangeCall g l).args.map (Act.eval ⟨tmps,ds⟩)= #[.func (.yield l) #[] #[]]:=by simp[rangeCall,Act.eval]
  simp only[resolve]
  rw[e]
  simp only[hve,Deferred.ofValue]
  exact Sem.run_pure _ _ _
 ·intro f' _; exact hF.fn f'
 ·obtain⟨fn',hf',hb',hn'⟩:=Z1b hpf
  simp only[invoke,Sem.run_bind,Sem.run_pure,Result.andThen_ok,callFunc,run_program,hf',hn',hb',Bool.false_eq_true,if_false]
 ·intro hd; rw[hF.depth] at hd; cases hd
 ·refine CallsIn.mono hout ?_
  rintro e w3 ⟨r,ob',φ',h',hend,hR,haft⟩
  obtain⟨q6,_⟩:=hm1.back (base:=rid+1) (by show cx.bs<=rid+1; omega) htop1 hnd hin haft
  rcases hend with ⟨v,rfl,hrv⟩ | ⟨v,rfl,rfl⟩
  case inr =>
   rcases hK _ ob' hR with ⟨v',he,hq⟩ | ⟨hf,_⟩
   ·cases he
    refine⟨ms,hnd',rfl,_,φ',_,hq,q6.weaken (fun _ _ h=>h) fun i o hi=> ?_⟩
    simp only[ZE] at hi
    split at hi
    ·cases hi
    ·exact hi
   ·cases hf
  obtain⟨st,pend,ps',asg,body,N',keys,dd,hl',hst,hQ⟩: ∃ st pend ps' asg body N' keys dd,lk (St.back ⟨s.tm,(rid,recd P .ready none cx.N ps a b s.tm)::s.ob⟩ (rid+1) nm ob').ob rid=some (.gen (.loop st pend ps' asg body N' keys) dd)/\st≠ .busy/\_:=by
   rcases hK r ob' hR with ⟨v',he,_⟩ | ⟨_,h⟩
   ·subst he; exact hrv.notPan.elim
   ·exact h
  have hob:=q6.ob rid _ hl'
  have hhr:hbak (updH h rid (.pointer (some ⟨l,0,none⟩))) h' (rid+1) rid= .pointer (some ⟨l,0,none⟩):=by
   simp only[hbak]; rw[if_neg (by omega)]; exact Zw _ _ _
  rw[hhr] at hob
  obtain⟨b0,vals,o,hb0,hown,hheap,hgis,_,_,hnone⟩:=hob
  cases hb0
  obtain⟨_,r3,rfl,hst3,hpe3,_⟩:=hgis
  have hrunl:=run_endLoop (P:=P) hheap (by rw[hst3]; exact hst)
  refine⟨pend,_,by rw[<- hpe3]; exact hrunl, ?_⟩
  generalize hS:St.back ⟨s.tm,(rid,recd P .ready none cx.N ps a b s.tm)::s.ob⟩ (rid+1) nm ob'=S at *
  have hStm:S.tm=s.tm:=by rw[<- hS]; rfl
  -- the record is let go
  have hsub: ∀ i o,lk (Za rid S.ob) i=some o->lk S.ob i=some o/\i≠rid:=fun i o ho=>by
   rw[ZE] at ho
   split at ho
   ·cases ho
   ·rename_i hne; exact⟨ho,hne⟩
  have hmw:Mod (cx.more ms) ⟨s.tm,Za rid S.ob⟩ φ' (hbak (updH h rid (.pointer (some ⟨l,0,none⟩))) h' (rid+1)) tmps w3:=q6.weaken (fun _ _ h=>by rw[hStm]; exact h) fun i o hi=>(hsub i o hi).1
  have hlt:=(Array.getElem?_eq_some_iff.1 hheap).1
  have hmf:Mod (cx.more ms) ⟨s.tm,Za rid S.ob⟩ φ' (hbak (updH h rid (.pointer (some ⟨l,0,none⟩))) h' (rid+1)) tmps (w3.putObj l (.loop { r3 with state:= .exhausted })):=by
   refine hmw.world hown (fun i hi he=> ?_) (ZiU q6 (by rw[hl']; rfl) (by rw[hhr]; rfl)) rfl rfl rfl World.putObj_size (fun k hk=>World.putObj_heap_other hk) (fun b o v hv=> ?_)
   ·obtain⟨o,ho⟩:=Option.isSome_iff_exists.1 hi
    obtain⟨h1,h2⟩:=hsub i o ho
    exact h2 (q6.sep i rid l (by rw[h1]; rfl) (by rw[hl']; rfl) he (by rw[hhr]; rfl))
   ·have hbl:b≠l:=fun e=>by rw[e,hnone] at hv; cases hv
    rw[World.cell?_of_block (w:=w3) (a:=⟨b,o,none⟩) (World.putObj_heap_other hbl)]
    exact hmw.mem b o v hv
  have fin: ∀ e,Q e ⟨s.tm,Za rid S.ob⟩->PostM cx ds Q e ⟨tmps,ms.map mkd++ds⟩ (w3.putObj l (.loop { r3 with state:= .exhausted })):=fun e hq=>⟨ms,hnd',rfl,_,φ',(hbak (updH h rid (.pointer (some ⟨l,0,none⟩))) h' (rid+1)),hq,hmf⟩
  split at hQ
  ·exact fin .normal hQ
  ·exact wpIn_ret (fin .ret hQ)
  ·exact wpIn_exit (fin (.exit _) hQ)
  ·exact hQ.elim
end
end Go.Sx
namespace Go.Sx
open Go.RowKit
variable [Globs] [Codes]
/- STEPS THAT MAY PANIC. -/
section
variable {P:Program} {F:Fence} {n:Nat} {cx:Cx} {s:St} {φ:Mem} {h:Nat->Value} {tmps:Array Value} {w:World}
theorem Z5A (hm:Mod cx s φ h tmps w) {ds:List Deferred} (dst:Option Nat) (hdd: ∀ d,dst=some d->d<cx.N):Mod cx (s.put dst .nov) φ h (Act.put ⟨tmps,ds⟩ dst Go.undef).tmps w:=by
 cases dst with
 | none=>exact hm
 | some t =>
  have:=hm.astep (dst:=t) (id:=cx.bs) (d:= .nov) (nb:=none) (v:=Go.undef) (hv:=Go.undef) ⟨Below.refl _ _,fun _ _ _ h=>h,hm.mem,(fun _ _ _ h h'=>by rw[h] at h'; cases h'),.tuple #[] [] rfl (by simp),(fun _ h=>by cases h)⟩ (hdd t rfl) (Nat.le_refl _)
   (fun h=>absurd rfl h) (fun h=>absurd rfl h) (fun h=>absurd rfl h)
  exact this.weaken (fun i d hi=>by simp only[St.put,ZQ] at hi; exact hi) (fun i o hi=>hi)
theorem Z2Z (hm:Mod cx s φ h tmps w) {ops:Array Oper} {o:Oper} {g:Option (Nat × Bool)} (hg:Z12 ops o=some g) {body skip:Prop} (hgd:gud g s body skip) :
  (Region.wanted o (yielded ops tmps)=true/\body)\/(Region.wanted o (yielded ops tmps)=false/\skip):=by
 unfold Z12 at hg
 cases hog:o.guard with
 | none =>
  rw[hog] at hg
  cases hg
  exact .inl ⟨by simp[Region.wanted,hog],hgd⟩
 | some jw =>
  obtain⟨j,want⟩:=jw
  rw[hog] at hg
  simp only[] at hg
  cases hj:(ops[j]?).bind (·.dst) with
  | none=>rw[hj] at hg; cases hg
  | some t =>
   rw[hj] at hg
   cases hg
   simp only[gud] at hgd
   split at hgd
   ·rename_i b hb
    have hv:tmps.getD t Go.undef= .bool b:=(hm.tm t _ hb).bool_inv
    have ht:tmps[t]? = some (.bool b):=by
     cases hq:tmps[t]? with
     | none=>simp[Array.getD_eq_getD_getElem?,hq,Go.undef] at hv
     | some v=>simp[Array.getD_eq_getD_getElem?,hq] at hv; rw[hv]
    have hy:yielded ops tmps j=some b:=by simp[yielded,hj,ht]
    split at hgd
    ·rename_i hbw; exact .inl ⟨by simp[Region.wanted,hog,hy,hbw],hgd⟩
    ·rename_i hbw; exact .inr ⟨by simp[Region.wanted,hog,hy,hbw],hgd⟩
   ·rename_i hb
    obtain⟨vs,hv,hvs,_⟩:=(hm.tm t _ hb).tuple_inv
    have hv0:tmps.getD t Go.undef= .tuple #[]:=by
     rw[hv]; congr 1; exact Array.eq_empty_of_size_eq_zero (by simpa using hvs)
    have hy:yielded ops tmps j=none:=by
     cases hq:tmps[t]? with
     | none=>simp[yielded,hj,hq]
     | some v =>
      have:v= .tuple #[]:=by simpa [Array.getD_eq_getD_getElem?,hq] using hv0
      simp[yielded,hj,hq,this]
    exact .inr ⟨by simp[Region.wanted,hog,hy],hgd⟩
   ·exact hgd.elim
theorem ZaN {fz:Bool} {o:Oper} {xs:List Operand} (hc:Z3s P fz o=some (.pnk,xs)): ∃ x,o.op= .panic x/\xs=[x]:=by
 have key: ∀ {a:Option (AOp × List Operand)},a=some (.pnk,xs)-> ∀ {b:AOp} {ys:List Operand},a=some (b,ys)->b= .pnk:=fun h1 _ _ h2=>by rw[h1] at h2; cases h2; rfl
 unfold Z3s at hc
 split at hc
 all_goals try (cases hc; done)
 all_goals try (rename_i x ho; cases hc; exact⟨x,ho,rfl⟩)
 all_goals first
  | (unfold Z1Q at hc; repeat' split at hc) | (repeat' split at hc)
 all_goals try (cases hc; done)
 all_goals try (unfold Z1Q at *; repeat' split at *)
 all_goals try (simp_all; done)
theorem Z1s (hF:Fence.Open F) {fz:Bool} {ops:Array Oper} {o:Oper} {so:SOp} {Kn:St->Prop} {Kp:Value->St->Prop} {Q:Exit->Act->World->Prop} {ds:List Deferred} {bt:Nat->Bool} {bs:Nat} (hbs:cx.bs<=bs) (hgl:GlobC cx.φ0 cx.w0 cx.Z) (hc:QZ P bt fz ops o=some so)
  (hd: ∀ d,o.dst=some d->d<cx.N) (hm:Mod cx s φ h tmps w) (hst:stpX P bs so s Kn Kp) (hp: ∀ v s' φ' h' w',Kp v s'->Mod cx s' φ' h' tmps w'->Q (pnc v) ⟨tmps,ds⟩ w') :
  if Region.wanted o (yielded ops tmps) then o.wpIn F n P ⟨tmps,ds⟩ w (Z0E cx ds Kn) Q
  else (∀ f,o.about P w (Act.eval ⟨tmps,ds⟩)=some f->F.fn f)/\Z0E cx ds Kn (Act.put ⟨tmps,ds⟩ o.dst Go.undef) w:=by
 cases so with
 | st g sz x y=>exact Qz hF hbs hgl hc hd hm hst
 | app dst g fz sz e x y=>exact Qz hF hbs hgl hc hd hm hst
 | a dst g op xs =>
  by_cases hq:dst=none/\op= .pnk/\ ∃ x,xs=[x]
  ·obtain⟨rfl,rfl,x,rfl⟩:=hq
   unfold QZ at hc
   cases hg:Z12 ops o with
   | none=>rw[hg] at hc; cases hc
   | some g' =>
   rw[hg] at hc
   have other:(match Z3s P fz o with
     | some (op,xs)=>(xs.mapM Qj).map fun xs=>SOp.a o.dst g' op xs
     | none=>none)=some (.a none g .pnk [x])->if Region.wanted o (yielded ops tmps) then o.wpIn F n P ⟨tmps,ds⟩ w (Z0E cx ds Kn) Q
     else (∀ f,o.about P w (Act.eval ⟨tmps,ds⟩)=some f->F.fn f)/\Z0E cx ds Kn (Act.put ⟨tmps,ds⟩ o.dst Go.undef) w:=by
    intro hc
    split at hc
    ·rename_i op ys hca
     cases hxs:ys.mapM Qj with
     | none=>rw[hxs] at hc; cases hc
     | some zs =>
      rw[hxs] at hc
      simp only[Option.map_some,Option.some.injEq,SOp.a.injEq] at hc
      obtain⟨hdst,rfl,rfl,rfl⟩:=hc
      obtain⟨x0,ho,rfl⟩:=ZaN hca
      have hx:Qj x0=some x:=by
       simp only[List.mapM_cons,List.mapM_nil,Option.bind_eq_bind,Option.bind_eq_some_iff,Option.pure_def,Option.some.injEq] at hxs
       obtain⟨y,h1,_,rfl,h2⟩:=hxs
       cases h2
       exact h1
      rcases Z2Z hm hg hst with ⟨hw,t,u,hsx,hk⟩ | ⟨hw,hk⟩
      ·rw[if_pos hw]
       have hv:=hm.get hgl (ds:=ds) hx
       rw[hsx] at hv
       have hv:=hv.raw_inv
       refine⟨fun f _=>hF.fn f, ?_⟩
       rw[Oper.semAt_eq _ _ _ (by rw[ho]; intro c h; cases h)]
       have hrun:(execOp (Act.eval ⟨tmps,ds⟩) o).run P w= .halt (.panic (.iface t u)) w:=by
        simp only[execOp,ho,hv]
        rfl
       rw[hrun,Oper.uponIn_panic]
       exact hp _ _ _ _ _ hk hm
      ·rw[if_neg (by rw[hw]; simp)]
       exact⟨fun f _=>hF.fn f,by cases o.dst <;> rfl,s,φ,h,hk,by rw[hdst]; exact hm⟩
    ·cases hc
   simp only[] at hc
   split at hc
   ·split at hc <;> cases hc
   ·split at hc <;> cases hc
   ·split at hc <;> cases hc
   ·split at hc
    ·split at hc
     ·split at hc
      ·split at hc <;> cases hc
      ·cases hc
     ·cases hc
    ·cases hc
   ·split at hc
    ·split at hc
     ·split at hc <;> cases hc
     ·cases hc
    ·cases hc
   ·split at hc
    ·split at hc <;> cases hc
    ·exact other hc
   ·exact other hc
  ·refine Qz hF hbs hgl hc hd hm ?_
   cases dst with
   | some d=>exact hst
   | none=>cases op <;> first | exact hst | (cases xs with
     | nil=>exact hst
     | cons x r=>cases r with
      | nil=>exact absurd ⟨rfl,rfl,x,rfl⟩ hq
      | cons _ _=>exact hst)
 | cd dst g x xs =>
  unfold QZ at hc
  cases hg:Z12 ops o with
  | none=>rw[hg] at hc; cases hc
  | some g' =>
  rw[hg] at hc
  have other:(match Z3s P fz o with
     | some (op,xs)=>(xs.mapM Qj).map fun xs=>SOp.a o.dst g' op xs
     | none=>none)=some (.cd dst g x xs)->False:=by
   intro hc
   split at hc
   ·rename_i op ys hca
    cases hxs:ys.mapM Qj with
    | none=>rw[hxs] at hc; cases hc
    | some zs=>rw[hxs] at hc; cases hc
   ·cases hc
  simp only[] at hc
  split at hc
  ·split at hc <;> cases hc
  ·split at hc <;> cases hc
  ·split at hc <;> cases hc
  ·split at hc
   ·split at hc
    ·split at hc
     ·split at hc <;> cases hc
     ·cases hc
    ·cases hc
   ·cases hc
  ·split at hc
   ·split at hc
    ·split at hc <;> cases hc
    ·cases hc
   ·cases hc
  ·rename_i c _ _ ho
   split at hc
   ·rename_i cx' cxs hcd
    split at hc
    ·rename_i x' xs' hx hxs
     cases hc
     have hcall: ∃ g',c.callee= .value g'/\cx'=g'/\cxs=c.args.toList:=by
      obtain⟨cal,args,ts⟩:=c
      unfold ZaM at hcd
      cases cal with
      | value g' =>
       cases g' <;> simp only[] at hcd <;> first | (split at hcd; all_goals first | (cases hcd; exact⟨_,rfl,rfl,rfl⟩) | cases hcd) | (cases hcd; exact⟨_,rfl,rfl,rfl⟩)
      | builtin b=>cases hcd
      | invoke _ _=>cases hcd
     obtain⟨g',hg',rfl,rfl⟩:=hcall
     rcases Z2Z hm hg hst with ⟨hw,hb⟩ | ⟨hw,hk⟩
     ·rw[if_pos hw]
      obtain⟨nm,R,base,hnd,hin,hb1,hb2,hcd2,hK⟩:=hb
      have hrun:(execOp (Act.eval ⟨tmps,ds⟩) o).run P w=(Z4C (Act.eval ⟨tmps,ds⟩ cx') (c.args.map (Act.eval ⟨tmps,ds⟩))).run P w:=by
       simp only[execOp,ho,resolve,hg',Z4C]
      have hargs: ∀ cd:D,RVL φ h (c.args.map (Act.eval ⟨tmps,ds⟩)).toList (xs.map fun y=>dva cd (lk s.ob) (s.get y)):=by
       intro cd
       have:=hm.gets hgl (ds:=ds) hxs
       rw[Array.toList_map]
       exact Z6p (own:=cx.own) (fun i ob hi=>hm.ob i ob hi) this
      have hout:=hcd2 F hF n φ (hcal h nm) w _ _ (hm.loc (hm.glob hgl) hnd) (Z1a (hm.get hgl (ds:=ds) hx)) (Z6o (hargs _))
      rw[<- hrun] at hout
      refine⟨fun f _=>hF.fn f, ?_⟩
      rw[Oper.semAt_eq _ _ _ (by rw[ho]; intro c h; cases h)]
      have fin: ∀ e w',Post (Qc s.ob (idx · nm) 0 nm) φ (hcal h nm) w R e w'->(∃ v,e= .returned v/\Z0E cx ds Kn (Act.put ⟨tmps,ds⟩ o.dst v) w')\/ ∃ v,e= .panicked [{ v,recovered:=false }]/\Q (pnc v) ⟨tmps,ds⟩ w':=by
       rintro e w' ⟨r,ob',φ',h',hend,hR,ha⟩
       obtain⟨q6,q5⟩:=hm.back (base:=base) (by omega) hb2 hnd hin ha
       rcases hend with ⟨v,rfl,hrv⟩ | ⟨v,rfl,rfl⟩
       ·refine .inl ⟨v,rfl,by cases o.dst <;> rfl,_,φ',hbak h h' base,((hK r ob' hR).resolve_right ?_).2, ?_⟩
        ·rintro⟨v',rfl,_⟩; exact hrv.notPan
        ·cases hdst:o.dst with
         | none=>exact q6
         | some t=>exact (q6.setTmp (hd t hdst) (q5 v r hrv)).weaken (fun i d hi=>by simp only[St.put,ZQ] at hi; exact hi) (fun i o hi=>hi)
       ·refine .inr ⟨v,rfl, ?_⟩
        rcases hK _ ob' hR with ⟨hf,_⟩ | ⟨v',he,hk⟩
        ·cases hf
        ·cases he
         exact hp _ _ _ _ _ hk q6
      unfold DynOut at hout
      split at hout
      ·rename_i f a w1 hrr
       rw[hrr,Oper.uponIn_enter]
       refine⟨(fun h=>by rw[hF.depth] at h; cases h),CallsIn.mono (hF.lessCall hout) ?_⟩
       intro e w' hpo
       rcases fin e w' hpo with ⟨v,rfl,hn⟩ | ⟨v,rfl,hn⟩
       ·exact hn
       ·exact hn
      ·rename_i l f a asg body w1 hrr
       rw[hrr,Oper.uponIn_round]
       refine⟨(fun h=>by rw[hF.depth] at h; cases h),RoundIn.mono (hF.lessRound hout) ?_⟩
       intro e w' hpo
       rcases fin e w' hpo with ⟨v,rfl,hn⟩ | ⟨v,rfl,hn⟩
       ·exact hn
       ·exact hn
      ·exact hout.elim
     ·rw[if_neg (by rw[hw]; simp)]
      exact⟨fun f _=>hF.fn f,by cases o.dst <;> rfl,_,φ,h,hk,Z5A hm (ds:=ds) o.dst hd⟩
    ·cases hc
   ·exact (other hc).elim
  ·exact (other hc).elim
end
end Go.Sx
namespace Go.Sx
open Go.RowKit
open Go.ChangeMaps (setBlock)
variable [Globs] [Codes]
/- PIECES WITH A RULE OF THEIR OWN. -/
section
variable {P:Program} {F:Fence} {n:Nat}
theorem Z1r {cx:Cx} {ds:List Deferred} {bs:Nat} (hbs:cx.bs<=bs) (hgl:GlobC cx.φ0 cx.w0 cx.Z) (hF:Fence.Open F) {bt fz:Nat->Bool} {ops:Array Oper} {K:St->Prop} {Y:Exit->Act->World->Prop} {rest:List Oper}
  (hrest: ∀ (s:St) (φ:Mem) (h:Nat->Value) (tmps:Array Value) (w:World),Mod cx s φ h tmps w->K s->wpListIn F n P ops Y rest ⟨tmps,ds⟩ w) (l:List Oper) :
  ∀ (sops:List SOp),l.mapM (fun o=>QZ P bt (fz (o.dst.getD 0)) ops o)=some sops->(∀ o∈l, ∀ d,o.dst=some d->d<cx.N) →
  ∀ (s:St) (φ:Mem) (h:Nat->Value) (tmps:Array Value) (w:World),Mod cx s φ h tmps w->stps P bs sops s K->wpListIn F n P ops Y (l++rest) ⟨tmps,ds⟩ w:=by
 induction l with
 | nil =>
  intro sops hc _ s φ h tmps w hm hst
  simp at hc; subst hc
  exact hrest s φ h tmps w hm hst
 | cons o l ih =>
  intro sops hc hd s φ h tmps w hm hst
  simp only[List.mapM_cons,Option.bind_eq_bind,Option.bind_eq_some_iff,Option.pure_def,Option.some.injEq] at hc
  obtain⟨so,h1,sops',h2,rfl⟩:=hc
  have hs:=Qz (ds:=ds) (n:=n) (Q:=Y) hF hbs hgl h1 (hd o (by simp)) hm hst
  have hnext: ∀ a w',Z0E cx ds (fun s'=>stps P bs sops' s' K) a w'->wpListIn F n P ops Y (l++rest) a w':=by
   rintro⟨tm,df⟩ w' ⟨hdf,s',φ',h',hk,hm'⟩
   cases hdf
   exact ih sops' h2 (fun o ho=>hd o (List.mem_cons_of_mem _ ho)) s' φ' h' tm w' hm' hk
  rw[List.cons_append]
  unfold wpListIn
  split at hs
  ·rename_i hw
   rw[if_pos hw]
   exact Oper.wpIn_mono hnext hs
  ·rename_i hw
   rw[if_neg hw]
   exact⟨hs.1,hnext _ _ hs.2⟩
theorem Z7O {cx:Cx} {ds:List Deferred} {bs:Nat} (hbs:cx.bs<=bs) (hgl:GlobC cx.φ0 cx.w0 cx.Z) (hF:Fence.Open F) {bt fz:Nat->Bool} {ops:Array Oper} {K:St->Prop} {Q:Exit->St->Prop} {rest:List Oper}
  (hrest: ∀ (s:St) (φ:Mem) (h:Nat->Value) (tmps:Array Value) (w:World),Mod cx s φ h tmps w->K s->wpListIn F n P ops (PostM cx ds Q) rest ⟨tmps,ds⟩ w) (l:List Oper) :
  ∀ (sops:List SOp),l.mapM (fun o=>QZ P bt (fz (o.dst.getD 0)) ops o)=some sops->(∀ o∈l, ∀ d,o.dst=some d->d<cx.N) →
  ∀ (s:St) (φ:Mem) (h:Nat->Value) (tmps:Array Value) (w:World),Mod cx s φ h tmps w->stps P bs sops s K->wpListIn F n P ops (PostM cx ds Q) (l++rest) ⟨tmps,ds⟩ w :=
 Z1r hbs hgl hF hrest l
theorem Z4O {cx:Cx} {ds:List Deferred} {bs:Nat} (hbs:cx.bs<=bs) (hgl:GlobC cx.φ0 cx.w0 cx.Z) (hF:Fence.Open F) {bt fz:Nat->Bool} {ops:Array Oper} {Q:Exit->St->Prop} (l:List Oper) :
  ∀ (sops:List SOp),l.mapM (fun o=>QZ P bt (fz (o.dst.getD 0)) ops o)=some sops->(∀ o∈l, ∀ d,o.dst=some d->d<cx.N) →
  ∀ (s:St) (φ:Mem) (h:Nat->Value) (tmps:Array Value) (w:World),Mod cx s φ h tmps w->Z1U P bs sops s (Q .normal) (fun v s'=>Q (pnc v) s')->wpListIn F n P ops (PostM cx ds Q) l ⟨tmps,ds⟩ w:=by
 induction l with
 | nil =>
  intro sops hc _ s φ h tmps w hm hst
  simp at hc; subst hc
  exact PostM.of hst hm
 | cons o l ih =>
  intro sops hc hd s φ h tmps w hm hst
  simp only[List.mapM_cons,Option.bind_eq_bind,Option.bind_eq_some_iff,Option.pure_def,Option.some.injEq] at hc
  obtain⟨so,h1,sops',h2,rfl⟩:=hc
  have hs:=Z1s (ds:=ds) (n:=n) (Q:=PostM cx ds Q) hF hbs hgl h1 (hd o (by simp)) hm hst (fun v s' φ' h' w' hk hm'=>PostM.of hk hm')
  have hnext: ∀ a w',Z0E cx ds (fun s'=>Z1U P bs sops' s' (Q .normal) (fun v s'=>Q (pnc v) s')) a w'->wpListIn F n P ops (PostM cx ds Q) l a w':=by
   rintro⟨tm,df⟩ w' ⟨hdf,s',φ',h',hk,hm'⟩
   cases hdf
   exact ih sops' h2 (fun o ho=>hd o (List.mem_cons_of_mem _ ho)) s' φ' h' tm w' hm' hk
  unfold wpListIn
  split at hs
  ·rename_i hw
   rw[if_pos hw]
   exact Oper.wpIn_mono hnext hs
  ·rename_i hw
   rw[if_neg hw]
   exact⟨hs.1,hnext _ _ hs.2⟩
theorem Z03 {o:Oper} (h:o.guard=none) (y:Nat->Option Bool):Region.wanted o y=true:=by
 unfold Region.wanted; rw[h]
theorem Z44 (hF:Fence.Open F) {o:Oper} {a:Act} {w w':World} {v:Value} {next:Act->World->Prop} {Q:Exit->Act->World->Prop} (hnd: ∀ c,o.op≠ .defer c)
  (he:(execOp a.eval o).run P w= .ok (.value v) w') (hnext:next (a.put o.dst v) w'):o.wpIn F n P a w next Q:=by
 refine⟨fun f _=>hF.fn f, ?_⟩
 rw[Oper.semAt_eq _ _ _ hnd,he]
 exact hnext
theorem Z9y (hF:Fence.Open F) {cx:Cx} (hgl:GlobC cx.φ0 cx.w0 cx.Z) {ds:List Deferred} {ops:Array Oper} {dst b:Nat} {t kt et:TypeId} {x:Operand} {x':X} {o:Oper} {Q:Exit->St->Prop} (hbs:cx.bs<=b) (ho:o.op= .range t x) (hdst:o.dst=some dst) (hg:o.guard=none)
  (ht:P.underlying t=some (.map kt et)) (hx:Qj x=some x') (hd:dst<cx.N) (s:St) (φ:Mem) (h:Nat->Value) (tmps:Array Value) (w:World) (hm:Mod cx s φ h tmps w)
  (hs: ∃ mid ks ds,s.get x'= .map mid/\lk s.ob mid=some (.gen (.mapC ks ds) [])/\s.clean (b+dst)=true/\mid≠b+dst/\ ∀ (l:List Nat) (cl:Nat),l.length=ks.length->l.Nodup->(∀ x∈l,x<cl) →
   Q .normal (St.put2 ⟨s.tm,(mid,.gen (.mapB ks ds l cl) [])::Za mid s.ob⟩ dst (b+dst) (.ptr (b+dst) 0) (.gen (.iter l [] cl) [.map mid]))):wpListIn F n P ops (PostM cx ds Q) [o] ⟨tmps,ds⟩ w:=by
 have hv:=hm.get hgl (ds:=ds) hx
 obtain⟨mid,ks,gds,hmid,hl,hcl,hne,hk⟩:=hs
 ·rw[hmid] at hv
  ·skip
   obtain⟨hvm,hlive⟩:=hv.map_inv
   obtain⟨bm,vals,oo,hblk,hown,hheap,⟨rfl,hall,⟨b',hb'⟩,es,clock,rfl,h1,h2,h3,h4⟩,hlen,hrv,hnone⟩:=hm.ob mid _ hl
   rw[hb'] at hblk
   cases hblk
   have hll:(es.toList.map MapEntry.born).length=ks.length:=by
    have:=congrArg List.length h1
    simpa using this
   have hlt: ∀ y∈es.toList.map MapEntry.born,y<clock:=by
    intro y hy
    obtain⟨e,he,rfl⟩:=List.mem_map.1 hy
    exact h4 e (by simpa using he)
   have hk':=hk _ clock hll h3 hlt
   -- the map,its entries' marks told
   have hm1:=hm.turn (w':=w) (fun _ _=>rfl) rfl rfl rfl (Nat.le_refl _) hl (by rw[hb']; rfl) hnone (o':= .gen (.mapB ks gds (es.toList.map MapEntry.born) clock) [])
    ⟨bm,[],_,by rw[hb']; rfl,hown,hheap,⟨rfl,hall,⟨bm,hb'⟩,es,rfl,h1,h2,rfl,h3,hlt⟩,hlen,hrv,hnone⟩
   have hbm:bm<w.heap.size:=(Array.getElem?_eq_some_iff.1 hheap).1
   have hrun:(execOp (Act.eval ⟨tmps,ds⟩) o).run P w= .ok (.value (.pointer (some ⟨w.heap.size,0,none⟩))) (w.alloc (.mapIter (some bm) clock #[] clock)):=by
    simp[execOp,ho,hvm,hb',Instr.range,run_underlying ht,MapKept.run_getObj_map hheap,Result.andThen]
   have hcl2:St.clean (b+dst) ⟨s.tm,(mid,.gen (.mapB ks gds (es.toList.map MapEntry.born) clock) [])::s.ob⟩=true:=by
    have hgd:Ob.men (b+dst) (.gen (.mapB ks gds (es.toList.map MapEntry.born) clock) [])=false:=by
     have:=St.clean_ob (i:=b+dst) hcl hl
     exact this
    simp only[St.clean,Bool.and_eq_true] at hcl ⊢
    refine⟨hcl.1, ?_⟩
    simp only[List.all_cons,Bool.and_eq_true]
    exact⟨by rw[hgd]; rfl,hcl.2⟩
   have hstep:AStep φ h w (b+dst) (.ptr (b+dst) 0) (some (.gen (.iter (es.toList.map MapEntry.born) [] clock) [.map mid])) (.pointer (some ⟨w.heap.size,0,none⟩)) φ (.pointer (some ⟨w.heap.size,0,none⟩)) (w.alloc (.mapIter (some bm) clock #[] clock)):=by
    refine⟨(Below.refl _ w).alloc (Nat.le_refl _) _,fun _ _ _ h=>h,Sub.alloc hm.mem _,(fun _ _ _ h h'=>by rw[h] at h'; cases h'),.ptr _ _ w.heap.size (Zw _ _ _),fun ob he=> ?_⟩
    cases he
    refine⟨w.heap.size,[.map (some bm)],_,rfl,Nat.le_refl _,heap_alloc_new w _,⟨⟨_,rfl⟩,bm,rfl,rfl,by simp⟩,rfl,fun j d hj=> ?_,fun off=> ?_⟩
    ·cases j with
     | zero =>
      simp at hj
      subst hj
      have e:updH h (b+dst) (.pointer (some ⟨w.heap.size,0,none⟩)) mid= .map (some bm):=by rw[Zj _ _ hne,hb']
      have:=RV.map (φ:=φ) (h:=updH h (b+dst) (.pointer (some ⟨w.heap.size,0,none⟩))) mid (by rw[e]; rfl)
      rw[e] at this
      simpa using this
     | succ j=>simp at hj
    ·cases hb:φ w.heap.size off with
     | none=>rfl
     | some v=>exact absurd (Sub.lt hm.mem hb) (by omega)
   have hm2:=hm1.astep hstep hd (Nat.le_trans hbs (Nat.le_add_right _ _)) (fun _ _ _ h=>St.clean_tm hcl2 h) (fun _ _ _ h=>St.clean_ob hcl2 h) (fun _=>rfl)
   unfold wpListIn
   rw[if_pos (Z03 hg _)]
   refine Z44 hF (by rw[ho]; intro c h; cases h) hrun ?_
   rw[hdst]
   refine PostM.of hk' (hm2.weaken (fun i d hi=> ?_) (fun i o hi=> ?_))
   ·simp only[St.put2,ZQ] at hi; exact hi
   ·simp only[St.put2,ZQ] at hi
    simp only[St.add,lk] at hi ⊢
    split at hi
    ·rename_i e; rw[if_pos e]; exact hi
    ·rename_i e
     rw[if_neg e]
     split at hi
     ·rename_i e2; rw[if_pos e2]; exact hi
     ·rename_i e2; rw[if_neg e2]; rw[ZE,if_neg e2] at hi; exact hi
theorem Z9U {l:List Nat} (hn:l.Nodup) {i j:Nat} (hi:i<l.length) (hj:j<l.length) (h:l.getD i 0=l.getD j 0):i=j:=by
 rw[List.getD_eq_getElem?_getD,List.getD_eq_getElem?_getD,List.getElem?_eq_getElem hi,List.getElem?_eq_getElem hj] at h
 exact (List.getElem_inj hn).1 h
theorem Z9R (hF:Fence.Open F) {cx:Cx} (hgl:GlobC cx.φ0 cx.w0 cx.Z) {ds:List Deferred} {ops:Array Oper} {b:Nat} {it:Operand} {it':X} {t1 t2:Nat} {o1 o2:Oper} {Q:Exit->St->Prop} (h1:o1.op= .next it false) (h2:o2.op= .extract (.tmp t1) 0) (hd1:o1.dst=some t1) (hd2:o2.dst=some t2)
  (hg1:o1.guard=none) (hg2:o2.guard=none) (hne:t1≠t2) (hN1:t1<cx.N) (hN2:t2<cx.N) (hx:Qj it=some it') (s:St) (φ:Mem) (h:Nat->Value) (tmps:Array Value) (w:World) (hm:Mod cx s φ h tmps w)
  (hs:spS P b (.nxt it' t1 t2) Q s):wpListIn F n P ops (PostM cx ds Q) [o1,o2] ⟨tmps,ds⟩ w:=by
 simp only[spS] at hs
 have hv:=hm.get hgl (ds:=ds) hx
 obtain⟨id,l',ix,cl',mid,ks,gds,hid,hl,hlm,hidm,hK1,hK2⟩:=hs
 ·rw[hid] at hv
  ·skip
   ·skip
    obtain⟨b0,hh,hvx⟩:=hv.ptr_inv
    obtain⟨bi,vals,oo,hblk,hown,hheap,⟨⟨b',hb'⟩,bm,rfl,rfl,hix⟩,hlen,hrv,hnone⟩:=hm.ob id _ hl
    rw[hh] at hblk
    cases hblk
    obtain⟨hmv,hml⟩:=(hrv 0 _ rfl).map_inv
    have hmv':h mid= .map (some bm):=by simpa using hmv.symm
    obtain⟨bm2,vals2,oo2,hblk2,hown2,hheap2,⟨rfl,hall,hmp,es,rfl,e1,e2,e3,hnd,hlt⟩,hlen2,hrv2,hnone2⟩:=hm.ob mid _ hlm
    rw[hmv'] at hblk2
    cases hblk2
    have hll:es.size=l'.length:=by rw[<- e3]; simp
    have hborn: ∀ (i:Nat) (hi:i<es.size),l'.getD i 0=es[i].born:=fun i hi=>by
     rw[<- e3]
     have:es.toList[i]? = some es[i]:=by simp[hi]
     simp[List.getD,this]
    -- the two operations,once the first is known
    have fin: ∀ (w1:World) (bv:Bool) (tv:Array Value) (s1:St),(execOp (Act.eval ⟨tmps,ds⟩) o1).run P w= .ok (.value (.tuple tv)) w1->tv[0]? = some (.bool bv)->Mod cx s1 φ h tmps w1 →
      Q .normal ((s1.put (some t1) .undef).put (some t2) (.bool bv))->wpListIn F n P ops (PostM cx ds Q) [o1,o2] ⟨tmps,ds⟩ w:=by
     intro w1 bv tv s1 hrun htv hm1 hq
     unfold wpListIn
     rw[if_pos (Z03 hg1 _)]
     refine Z44 hF (by rw[h1]; intro c h; cases h) hrun ?_
     rw[hd1]
     unfold wpListIn
     rw[if_pos (Z03 hg2 _)]
     have hsz:=hm.size
     refine Z44 (v:= .bool bv) (w':=w1) hF (by rw[h2]; intro c h; cases h) ?_ ?_
     ·have:(Act.put ⟨tmps,ds⟩ (some t1) (.tuple tv)).eval (.tmp t1)= .tuple tv:=by
       simp[Act.put,Act.eval,Array.getD_eq_getD_getElem?,Array.getElem?_setIfInBounds,hsz,hN1]
      simp only[execOp,h2,this,Instr.extract,htv]
      rfl
     ·rw[hd2]
      have hm2:=(hm1.setTmp (d:= .undef) (v:= .tuple tv) hN1 (.undef _)).setTmp (d:= .bool bv) (v:= .bool bv) hN2 (Qx _)
      refine PostM.of hq (hm2.weaken (fun i d hi=> ?_) (fun i o hi=> ?_))
      ·by_cases ha:i=t2
       ·simp only[St.put,lk,if_pos ha] at hi ⊢; exact hi
       ·simp only[St.put,lk,if_neg ha,ZE] at hi ⊢
        by_cases hb:i=t1
        ·simpa only[if_pos hb] using hi
        ·simp only[if_neg hb,ZE] at hi ⊢; exact hi
      ·exact hi
    have hseen: ∀ i,i<es.size->(((ix.map fun i=>l'.getD i 0).toArray.contains (l'.getD i 0)=true) ↔ i∈ix):=fun i hi=>by
     simp only[Array.contains_eq_any_beq,List.any_toArray,List.any_map,List.any_eq_true]
     constructor
     ·rintro⟨j,hj,he⟩
      have he':l'.getD i 0=l'.getD j 0:=by simpa using he
      have:=Z9U hnd (by omega) (hix j hj) he'
      subst this; exact hj
     ·intro hj
      exact⟨i,hj,by simp⟩
    rcases run_next_at (P:=P) w o1.type b0 bm cl' cl' _ es cl' hheap hheap2 (fun x hx=>hlt _ (by rw[<- e3]; exact List.mem_map.2 ⟨x,hx,rfl⟩)) (Nat.le_refl _) with ⟨h0,hrun⟩ | ⟨e,he,w1,hw1,hrun⟩
    ·refine fin w false #[.bool false] _ (by simp[execOp,h1,hvx,hrun]) rfl ?_ (hK1 fun i hi=> ?_)
     ·have hlv:es.toList.map MapEntry.born=l':=e3
      refine (hm.turn (w':=w) (fun _ _=>rfl) rfl rfl rfl (Nat.le_refl _) hlm (by rw[hmv']; rfl) hnone2 (o':= .gen (.mapC ks gds) [])
       ⟨bm,[],_,by rw[hmv']; rfl,hown2,hheap2,⟨rfl,hall,hmp,es,cl',rfl,e1,e2,by rw[hlv]; exact hnd,fun x hx=>hlt _ (by rw[<- hlv]; exact List.mem_map.2 ⟨x,by simpa using hx,rfl⟩)⟩,hlen2,hrv2,hnone2⟩).weaken (fun _ _ h=>h) (fun i o hi=> ?_)
      simp only[ZQ] at hi
      exact hi
     ·have hi':i<es.size:=by omega
      rw[<- hseen i hi']
      have hz:leftOf es (ix.map fun i=>l'.getD i 0).toArray= #[]:=Array.eq_empty_of_size_eq_zero h0
      have hnm:es[i] ∉ leftOf es (ix.map fun i=>l'.getD i 0).toArray:=by rw[hz]; simp
      unfold leftOf at hnm
      rw[Array.mem_filter] at hnm
      rw[hborn i hi']
      cases hq:((ix.map fun i=>l'.getD i 0).toArray.contains es[i].born) with
      | true=>rfl
      | false=>exact absurd ⟨by simp,by rw[hq]; rfl⟩ hnm
    ·have he':e∈leftOf es (ix.map fun i=>l'.getD i 0).toArray:=by simpa using he
     unfold leftOf at he'
     rw[Array.mem_filter] at he'
     obtain⟨hee,hns⟩:=he'
     obtain⟨i,hi,rfl⟩:=Array.getElem_of_mem hee
     have hnotin:i ∉ ix:=fun hin=>by
      have:=(hseen i hi).2 hin
      rw[hborn i hi] at this
      rw[this] at hns
      cases hns
     have hm1:Mod cx s φ h tmps w1:=by
      rcases hw1 with rfl | rfl
      ·exact hm
      ·exact hm.drew
     have hh1:w1.heap=w.heap:=by
      rcases hw1 with rfl | rfl <;> rfl
     have hheap':w1.heap[b0]? = some (.mapIter (some bm) cl' (ix.map fun i=>l'.getD i 0).toArray cl'):=by rw[hh1]; exact hheap
     refine fin (setBlock w1 b0 (.mapIter (some bm) cl' ((ix.map fun i=>l'.getD i 0).toArray.push es[i].born) cl')) true #[.bool true,es[i].key,es[i].val] _ (by simp[execOp,h1,hvx,hrun]) rfl ?_ (hK2 i (by omega) hnotin)
     refine (hm1.turn (w':=setBlock w1 b0 _) (fun k hk=>(MapKept.heap_set hheap').2 k hk) rfl rfl rfl (by simp[setBlock]) hl (by rw[hh]; rfl) hnone (o':= .gen (.iter l' (ix++[i]) cl') [.map mid]) ?_).weaken (fun _ _ h=>h) (fun i o hi=> ?_)
     ·refine⟨b0,[.map (some bm)],_,by rw[hh]; rfl,hown,(MapKept.heap_set hheap').1,⟨⟨b0,hh⟩,bm,rfl, ?_, ?_⟩,hlen,hrv,hnone⟩
      ·rw[List.map_append,<- hborn i hi]; simp
      ·intro j hj
       rcases List.mem_append.1 hj with hj | hj
       ·exact hix j hj
       ·simp at hj; omega
     ·simp only[ZQ] at hi
      exact hi
theorem Z7P (hF:Fence.Open F) {cx:Cx} (hgl:GlobC cx.φ0 cx.w0 cx.Z) {ds:List Deferred} {hi:Hints} {ops:Array Oper} {k:Sp} {id:Nat} (hc:Z0I P cx.N hi ops=some k) {Q:Exit->St->Prop} {s:St} {φ:Mem} {h:Nat->Value} {tmps:Array Value} {w:World}
  (hm:Mod cx s φ h tmps w) (hs:spS P cx.bs k Q s):(Code.region id ops false).wpIn F n P (PostM cx ds Q) ⟨tmps,ds⟩ w:=by
 refine wpIn_region_list ?_
 unfold Z0I at hc
 split at hc
 ·rename_i dst t x ty pos aft hlast
  split at hc
  ·rename_i kt et x' sops hu hx hops
   split at hc
   ·rename_i hdd
    cases hc
    obtain⟨init,hinit⟩: ∃ init,ops.toList=init++[⟨some dst,.range t x,ty,pos,aft,none⟩]:=by
     rcases List.eq_nil_or_concat ops.toList with h0 | ⟨l,a,h0⟩
     ·rw[h0] at hlast; cases hlast
     ·rw[List.concat_eq_append] at h0
      rw[h0] at hlast
      simp at hlast
      exact⟨l,by rw[h0,hlast]⟩
    have hd:=Qd hdd
    rw[hinit] at hops hd ⊢
    simp only[List.dropLast_concat] at hops
    refine Z7O (Nat.le_max_left _ _) hgl hF (fun s' φ' h' tm w' hm' hk=> ?_) init sops hops (fun o ho=>hd o (by simp[ho])) s φ h tmps w hm hs
    exact Z9y hF hgl (Nat.le_max_left _ _) rfl rfl rfl hu hx (hd ⟨some dst,.range t x,ty,pos,aft,none⟩ (by simp) dst rfl) s' φ' h' tm w' hm' hk
   ·cases hc
  ·cases hc
 ·split at hc
  ·rename_i t1 it ty1 pos1 aft1 t2 t3 ty2 pos2 aft2 hops
   split at hc
   ·rename_i it' hit
    split at hc
    ·rename_i hcc
     cases hc
     obtain⟨rfl,h1,h2,h3⟩:=hcc
     rw[hops]
     exact Z9R hF hgl rfl rfl rfl rfl rfl rfl h1 h2 h3 hit s φ h tmps w hm hs
    ·cases hc
   ·cases hc
  ·split at hc
   ·split at hc
    ·split at hc
     ·cases hc; exact hs.elim
     ·cases hc
    ·cases hc
   ·split at hc
    ·split at hc
     ·split at hc
      ·cases hc; exact hs.elim
      ·cases hc
     ·cases hc
    ·split at hc
     ·split at hc
      ·rename_i sops hops
       split at hc
       ·rename_i hdd
        cases hc
        exact Z4O (Nat.le_max_left _ _) hgl hF ops.toList sops hops (Qd hdd) s φ h tmps w hm hs
       ·cases hc
      ·cases hc
     ·cases hc
end
end Go.Sx
namespace Go.Sx
open Go.RowKit
variable [Globs] [Codes]
section
variable {P:Program} {F:Fence} {n:Nat}
theorem Z3Q {N:Nat} {hi:Hints} {ops:Array Oper} {sops:List SOp} (hc:Z0I P N hi ops=some (.pan sops)) :
  ∃ bt fz:Nat->Bool,ops.toList.mapM (fun o=>QZ P bt (fz (o.dst.getD 0)) ops o)=some sops/\QR N ops=true:=by
 unfold Z0I at hc
 split at hc
 ·split at hc
  ·split at hc <;> cases hc
  ·cases hc
 ·split at hc
  ·split at hc
   ·split at hc <;> cases hc
   ·cases hc
  ·split at hc
   ·split at hc
    ·split at hc <;> cases hc
    ·cases hc
   ·split at hc
    ·split at hc
     ·split at hc <;> cases hc
     ·cases hc
    ·split at hc
     ·split at hc
      ·rename_i sops' hops
       split at hc
       ·rename_i hdd
        cases hc
        exact⟨_,_,hops,hdd⟩
       ·cases hc
      ·cases hc
     ·cases hc
theorem Z18 [CodesOf P] (Z7:DrawSound P) (hF:Fence.Open F) {hi:Hints} {N bs:Nat} (c:Code): ∀ (sc:SC),ZN P N hi c=some sc-> ∀ (cx:Cx) (ds:List Deferred),cx.N=N->cx.bs=bs->GlobC cx.φ0 cx.w0 cx.Z->InRound F cx →
  ∀ (Q:Exit->St->Prop) (s:St) (φ:Mem) (h:Nat->Value) (tmps:Array Value) (w:World),
  Mod cx s φ h tmps w->sw P bs sc Q s->c.wpIn F n P (PostM cx ds Q) ⟨tmps,ds⟩ w:=by
 induction c with
 | skip =>
  intro sc hc cx ds hN hbs hgl hro Q s φ h tmps w hm hs
  cases hc
  exact wpIn_skip (PostM.of hs hm)
 | ret =>
  intro sc hc cx ds hN hbs hgl hro Q s φ h tmps w hm hs
  cases hc
  exact wpIn_ret (PostM.of hs hm)
 | exit id =>
  intro sc hc cx ds hN hbs hgl hro Q s φ h tmps w hm hs
  cases hc
  exact wpIn_exit (PostM.of hs hm)
 | region id ops draw =>
  intro sc hc cx ds hN hbs hgl hro Q s φ h tmps w hm hs
  subst hN
  subst hbs
  simp only[ZN] at hc
  split at hc
  ·rename_i k hk
   cases draw with
   | true =>
    simp only[if_true] at hc
    obtain⟨sops,rfl,h1,h2,⟨p,h3,rfl⟩ | rfl⟩:=Z37 hc
    case inr =>
     obtain⟨bt,fz,hops,hdd⟩:=Z3Q hk
     obtain⟨pan,qs,s',q1,q2,q3,q4⟩:=hs
     exact Z7.o hF (Nat.le_max_left _ _) hgl hops hdd h2 h1 s φ h tmps w (Nat.le_max_right _ _) hm pan qs s' q1 q2 q3 q4
    obtain⟨bt,fz,hops,hdd⟩:=Z3Q hk
    obtain⟨es,s',q1,q2,q3⟩:=hs
    exact Z7.p hF (Nat.le_max_left _ _) hgl hops hdd h2 h1 h3 s φ h tmps w (Nat.le_max_right _ _) hm es s' _ q1 q2 (Nat.le_max_left _ _) q3
   | false =>
    simp only[Bool.false_eq_true,if_false] at hc
    cases hc
    exact Z7P hF hgl hk hm hs
  split at hc
  ·rename_i sops hl
   split at hc
   ·rename_i hd
    cases draw with
    | true =>
     simp only[if_true] at hc
     split at hc
     ·rename_i hok
      cases hc
      simp only[Bool.and_eq_true,decide_eq_true_eq] at hok
      obtain⟨es,s',q1,q2,q3⟩:=hs
      exact Z7.s hF (Nat.le_max_left _ _) hgl hl hd hok.2 hok.1 s φ h tmps w (Nat.le_max_right _ _) hm es s' q1 q2 q3
     ·cases hc
    | false =>
     simp only[Bool.false_eq_true,if_false] at hc
     cases hc
     exact wpIn_region_list (Z5I (Nat.le_max_left _ _) hgl hF ops.toList sops hl (Qd hd) s φ h tmps w hm hs)
   ·cases hc
  ·cases hc
 | seq a b iha ihb =>
  intro sc hc cx ds hN hbs hgl hro Q s φ h tmps w hm hs
  simp only[ZN] at hc
  split at hc
  ·rename_i sa sb ha hb
   split at hc
   ·cases hc
    refine wpIn_seq (wpIn_mono (iha sa ha cx ds hN hbs hgl hro _ s φ h tmps w hm hs) ?_)
    rintro e ⟨tm,df⟩ w' ⟨ms,hnd,hdf,s',φ',h',hq,hm'⟩
    simp only at hdf
    subst hdf
    cases e <;> first | exact⟨ms,hnd,rfl,s',φ',h',hq,hm'⟩ | exact wpIn_mono (ihb sb hb (cx.more ms) (ms.map mkd++ds) hN hbs hgl (hro.more ms) Q s' φ' h' tm w' hm' hq) (fun _ _ _ h=>h.after hnd)
   ·rename_i ts _
    cases hc
    refine wpIn_seq (wpIn_mono (iha sa ha cx ds hN hbs hgl hro _ s φ h tmps w hm hs) ?_)
    rintro e ⟨tm,df⟩ w' ⟨ms,hnd,hdf,s',φ',h',hq,hm'⟩
    simp only at hdf
    subst hdf
    cases e <;> try exact⟨ms,hnd,rfl,s',φ',h',hq,hm'⟩
    obtain⟨φ2,hk,hmk⟩:=hm'.canonM ts
    have hq':sw P bs sb Q (s'.canon bs ts):=hq
    subst hbs
    exact wpIn_mono (ihb sb hb (cx.more ms) (ms.map mkd++ds) hN rfl hgl (hro.more ms) Q _ φ2 hk tm w' hmk hq') (fun _ _ _ h=>h.after hnd)
  ·cases hc
 | cond x a b iha ihb =>
  intro sc hc cx ds hN hbs hgl hro Q s φ h tmps w hm hs
  simp only[ZN] at hc
  split at hc
  ·rename_i x' sa sb hx ha hb
   cases hc
   simp only[sw] at hs
   have hv:=hm.get hgl (ds:=ds) hx
   split at hs
   ·rename_i t hxt
    rw[hxt] at hv
    refine wpIn_cond hv.bool_inv ?_
    cases t
    ·exact ihb sb hb cx ds hN hbs hgl hro Q s φ h tmps w hm (by simpa using hs)
    ·exact iha sa ha cx ds hN hbs hgl hro Q s φ h tmps w hm (by simpa using hs)
   ·exact hs.elim
  ·cases hc
 | block id c ih =>
  intro sc hc cx ds hN hbs hgl hro Q s φ h tmps w hm hs
  simp only[ZN] at hc
  cases hc':ZN P N hi c with
  | none=>rw[hc'] at hc; cases hc
  | some sb =>
   rw[hc'] at hc; cases hc
   refine wpIn_block (wpIn_mono (ih sb hc' cx ds hN hbs hgl hro _ s φ h tmps w hm hs) ?_)
   rintro e ⟨tm,df⟩ w' ⟨ms,hnd,hdf,s',φ',h',hq,hm'⟩
   cases e <;> try exact⟨ms,hnd,hdf,s',φ',h',hq,hm'⟩
   rename_i i
   simp only[Z0y] at hq
   simp only[Exit.inBlock]
   split at hq
   ·rename_i hi; rw[if_pos hi]; exact⟨ms,hnd,hdf,s',φ',h',hq,hm'⟩
   ·rename_i hi; rw[if_neg hi]; exact⟨ms,hnd,hdf,s',φ',h',hq,hm'⟩
 | loop c ih =>
  intro sc hc cx ds hN hbs hgl hro Q s φ h tmps w hm hs
  simp only[ZN] at hc
  cases hc':ZN P N hi c with
  | none=>rw[hc'] at hc; cases hc
  | some sb =>
   rw[hc'] at hc; cases hc
   obtain⟨ts,Inv,⟨k0,hk0⟩,hround⟩:=hs
   subst hN
   subst hbs
   let I:Nat->Act->World->Prop:=fun k a w'=>PostM cx ds (fun _ s'=>Inv k s') .normal a w'
   have hmin: ∀ a w',(∃ k,I k a w')-> ∃ k,I k a w'/\ ∀ j,I j a w'->k<=j:=fun a w' ⟨k,hk⟩=>by
    induction k using Nat.strongRecOn with
    | _ k ihk =>
     by_cases hlt: ∃ j,j<k/\I j a w'
     ·obtain⟨j,hj,hij⟩:=hlt
      exact ihk j hj hij
     ·exact⟨k,hk,fun j hj=>Nat.le_of_not_lt fun hjk=>hlt ⟨j,hjk,hj⟩⟩
   let μ:Act->World->Nat:=fun a w'=>Classical.epsilon fun k=>I k a w'/\ ∀ j,I j a w'->k<=j
   have hμ: ∀ a w',(∃ k,I k a w')->I (μ a w') a w'/\ ∀ j,I j a w'->μ a w'<=j:=fun a w' hex=>Classical.epsilon_spec (hmin a w' hex)
   obtain⟨_,hk,hmk⟩:=hm.canonM ts
   refine wpIn_loop (fun a w'=> ∃ k,I k a w') μ ⟨k0,PostM.of (Q:=fun _ s'=>Inv k0 s') hk0 hmk⟩ ?_
   intro a w' hex
   obtain⟨⟨ms,hnd,hdf,s',φ',h',hinv,hm'⟩,_⟩:=hμ a w' hex
   generalize hkk:μ a w'=kk at hinv
   obtain⟨tm,df⟩:=a
   simp only at hdf
   subst hdf
   refine wpIn_mono (ih sb hc' (cx.more ms) (ms.map mkd++ds) rfl rfl hgl (hro.more ms) _ s' φ' h' tm w' hm' (hround kk s' hinv)) ?_
   intro e a2 w2 hp
   obtain⟨ms2,hnd2,hdf2,s2,φ2,h2,hq,hm2⟩:=hp.after hnd
   cases e <;> try exact⟨ms2,hnd2,hdf2,s2,φ2,h2,hq,hm2⟩
   obtain⟨k',hlt,hinv'⟩:=hq
   obtain⟨φ3,hk2,hmk2⟩:=hm2.canonM ts
   have hI:I k' a2 w2:=⟨ms2,hnd2,hdf2,s2.canon cx.bs ts,φ3,hk2,hinv',hmk2⟩
   exact⟨⟨k',hI⟩,by have:=(hμ a2 w2 ⟨k',hI⟩).2 k' hI; omega⟩
 | rangeFunc g ps ca cb iha ihb =>
  intro sc hc cx ds hN hbs hgl hro Q s φ h tmps w hm hs
  subst hN
  subst hbs
  simp only[ZN] at hc
  split at hc
  ·rename_i g' a b hg ha hb
   cases hc
   exact Z52 hF hgl hro hg ha hb hm hs
  ·cases hc
 | scope=>intro sc hc; cases hc
 | label=>intro sc hc; cases hc
 | goto=>intro sc hc; cases hc
 | refuse=>intro sc hc; cases hc
end
end Go.Sx
namespace Go.Sx
open Go.RowKit
variable [Globs] [Codes]
inductive SR where
 | t (n:Nat)
 | cell (n:Nat) (agg:Bool) (sz:Nat)
 deriving Inhabited
def resD (s:St):SR->Option D
 | .t n=>lk s.tm n
 | .cell n agg sz=>match lk s.tm n with
  | some (.ptr id off)=>match lk s.ob id with
   | some (.cells cs)=>if agg then (if off+sz<=cs.length then some (.agg ((cs.drop off).take sz)) else none) else cs[off]?
   | _=>none
  | _=>none
def Z0w:List D->D
 | [d]=>d
 | ds=> .tuple ds
def Z23 (P:Program):ResultVar->Option SR
 | .tmp t=>some (.t t)
 | .cell a t=>match aggB P t,szT P t with
  | some ag,some sz=>some (.cell a ag sz)
  | _,_=>none
def Zv:Nat->List D->Env
 | _,[]=>[]
 | i,d::ds=>(i,d)::Zv (i+1) ds
theorem Z7g: ∀ (ds:List D) (i t:Nat) (d:D),lk (Zv i ds) t=some d->i<=t/\ds[t-i]? = some d
 | [],_,_,_,h=>by simp[Zv,lk] at h
 | x::ds,i,t,d,h=>by
  simp only[Zv,lk] at h
  split at h
  ·rename_i ht
   cases h; subst ht
   simp
  ·have:=Z7g ds (i+1) t d h
   refine⟨by omega, ?_⟩
   rw[show t-i=(t-(i+1))+1 by omega]
   simpa using this.2
theorem Z08: ∀ {ds:List D},D.cloL ds=true-> ∀ d∈ds,D.clo d=true
 | [],_,_,h=>by simp at h
 | x::ds,hc,d,h=>by
  simp only[D.cloL,Bool.and_eq_true] at hc
  rcases List.mem_cons.1 h with rfl | h
  ·exact hc.1
  ·exact Z08 hc.2 d h
theorem RV.closed {φ:Mem} {h:Nat->Value} {v:Value} {d:D} (r:RV φ h v d):D.clo d=true-> ∀ h',RV φ h' v d:=by
 induction r with
 | undef v=>exact fun _ h'=> .undef v
 | pure hr=>exact fun _ h'=> .pure hr
 | agg vs cs hs _ ih=>exact fun hc h'=> .agg vs cs hs fun j d hd=>ih j d hd (Z08 (by simpa [D.clo] using hc) d (List.mem_of_getElem? hd)) h'
 | tuple vs cs hs _ ih=>exact fun hc h'=> .tuple vs cs hs fun j d hd=>ih j d hd (Z08 (by simpa [D.clo] using hc) d (List.mem_of_getElem? hd)) h'
 | ptr=>intro hc; simp[D.clo] at hc
 | fptr b off cs vals hm hr=>exact fun _ h'=> .fptr b off cs vals hm hr
 | vec=>intro hc; simp[D.clo] at hc
 | vptr=>intro hc; simp[D.clo] at hc
 | vwin=>intro hc; simp[D.clo] at hc
 | map=>intro hc; simp[D.clo] at hc
 | yld=>intro hc; simp[D.clo] at hc
 | func f vf vc df dc hf hcc _ _ ih1 ih2 =>
  intro hc h'
  simp only[D.clo,Bool.and_eq_true] at hc
  exact .func f vf vc df dc hf hcc (fun j d hd=>ih1 j d hd (Z08 hc.1 d (List.mem_of_getElem? hd)) h') (fun j d hd=>ih2 j d hd (Z08 hc.2 d (List.mem_of_getElem? hd)) h')
section
variable {P:Program} {cx:Cx} {s:St} {φ:Mem} {h:Nat->Value} {tmps:Array Value} {w:World}
def resF (tmps:Array Value):ResultVar->Sem Value
 | .tmp t=>pure (tmps.getD t Go.undef)
 | .cell a t=>do loadVar t (← asAddr (tmps.getD a Go.undef))
theorem Z88 (fn:Func) (tmps:Array Value):results fn tmps=(do let vs ← fn.results.mapM (resF tmps); pure (if h:vs.size=1 then vs[0] else .tuple vs)):=by
 unfold results
 congr 1
theorem Zfn (hm:Mod cx s φ h tmps w) {rv:ResultVar} {sr:SR} {d:D} (hc:Z23 P rv=some sr) (hr:resD s sr=some d) :
  ∃ v,(resF tmps rv).run P w= .ok v w/\RV φ h v d:=by
 cases rv with
 | tmp t =>
  cases hc
  simp only[resD] at hr
  cases hl:lk s.tm t with
  | none=>rw[hl] at hr; cases hr
  | some d'=>rw[hl] at hr; simp at hr; subst hr; exact⟨_,rfl,hm.tm t d' hl⟩
 | cell a t =>
  simp only[Z23] at hc
  split at hc
  ·rename_i ag sz ha hs
   cases hc
   simp only[resD] at hr
   split at hr
   ·rename_i id off hl
    obtain⟨b,hb,hv⟩:=(hm.tm a _ hl).ptr_inv
    split at hr
    ·rename_i cs hob
     obtain⟨b',vals,e,hb',_,hheap,hsize,hrv,_⟩:=hm.ob id _ hob
     rw[hb] at hb'
     cases hb'
     have hcell: ∀ j,j<cs.length->w.cell? ⟨b,j,none⟩=some (vals.getD j Go.undef):=fun j hj=>by
      rw[cell_of_row w b j vals e _ hheap]
      simp[Array.getD_eq_getD_getElem?,hsize,hj]
     have hadr:(asAddr (tmps.getD a Go.undef)).run P w= .ok ⟨b,off,none⟩ w:=by rw[hv]; rfl
     cases ag with
     | true =>
      simp only[if_true] at hr
      split at hr
      ·rename_i hle
       cases hr
       have:=Z0R (P:=P) (w:=w) (b:=b) (off:=off) ha hs ((List.range sz).map fun j=>vals.getD (off+j) Go.undef) (by simp) (fun j v hj=>by
        rw[List.getElem?_map] at hj
        by_cases hlt:j<sz
        ·simp[hlt] at hj; subst hj; have:=hcell (off+j) (by omega); simpa using this
        ·rw[List.getElem?_eq_none (by simp; omega)] at hj; cases hj)
       refine⟨.agg ((List.range sz).map fun j=>vals.getD (off+j) Go.undef).toArray,by simp only[resF,Sem.run_bind,hadr,Result.andThen_ok,this],Z4W (n:=sz) (f:=fun j=>vals.getD (off+j) Go.undef) (by simp; omega) ?_⟩
       intro j d hd
       rw[List.getElem?_take] at hd
       split at hd
       ·rw[List.getElem?_drop] at hd
        exact hrv _ _ hd
       ·cases hd
      ·cases hr
     | false =>
      simp only[Bool.false_eq_true,if_false] at hr
      cases hq:cs[off]? with
      | none=>rw[hq] at hr; cases hr
      | some d' =>
       rw[hq] at hr; simp at hr; subst hr
       have hlt:=(List.getElem?_eq_some_iff.1 hq).1
       exact⟨_,by simp only[resF,Sem.run_bind,hadr,Result.andThen_ok,Z0Q (P:=P) ha (hcell off hlt)],hrv _ _ hq⟩
    ·cases hr
   ·cases hr
  ·cases hc
theorem Z71 (hm:Mod cx s φ h tmps w): ∀ {rvs:List ResultVar} {rs:List SR} {ds:List D},rvs.mapM (Z23 P)=some rs->rs.mapM (resD s)=some ds →
  ∃ vs,(rvs.mapM (resF tmps)).run P w= .ok vs w/\RVL φ h vs ds
 | [],rs,ds,hc,hr=>by
  simp at hc; subst hc
  simp at hr; subst hr
  exact⟨[],rfl,trivial⟩
 | rv::rvs,rs,ds,hc,hr=>by
  simp only[List.mapM_cons,Option.bind_eq_bind,Option.bind_eq_some_iff,Option.pure_def,Option.some.injEq] at hc
  obtain⟨sr,h1,rs',h2,rfl⟩:=hc
  simp only[List.mapM_cons,Option.bind_eq_bind,Option.bind_eq_some_iff,Option.pure_def,Option.some.injEq] at hr
  obtain⟨d,h3,ds',h4,rfl⟩:=hr
  obtain⟨v,hv,hvr⟩:=Zfn hm h1 h3
  obtain⟨vs,hvs,hvsr⟩:=Z71 hm h2 h4
  refine⟨v::vs, ?_,hvr,hvsr⟩
  rw[List.mapM_cons,Sem.run_bind,hv,Result.andThen_ok,Sem.run_bind,hvs]
  rfl
end
structure FnC (P:Program) (f:FuncId) (N:Nat) (sc:SC) (rs:List SR):Prop where
 ex: ∃ fn c hi,P.funcs[f]? = some fn/\fn.body=some c/\fn.ntmps=N/\ZN P N hi c=some sc/\fn.results.toList.mapM (Z23 P)=some rs
section
variable {P:Program} {F:Fence} {n:Nat}
theorem Mod.unmark {cx:Cx} {s:St} {φ:Mem} {h:Nat->Value} {tmps:Array Value} {w:World} {b:Nat} {ms:List Nat} (hm:Mod (cx.more (b::ms)) s φ h tmps w) (hb:b ∉ ms) (hk:cx.kp b=none) (hge:cx.w0.heap.size<=b) :
  w.heap[b]? = some (.deferred (some []))/\Mod (cx.more ms) s φ h tmps (w.putObj b (.deferred none)):=by
 have hkb:(cx.more (b::ms)).kp b=some (.deferred (some [])):=by simp[Cx.more,hk]
 obtain⟨h1,h2,h3⟩:=hm.kept b _ hkb
 have hlt:=(Array.getElem?_eq_some_iff.1 h1).1
 refine⟨h1, ?_⟩
 have hoth: ∀ k,k≠b->(w.putObj b (.deferred none)).heap[k]? = w.heap[k]? := fun k hk=>World.putObj_heap_other hk
 refine⟨hm.size,hm.tm,fun g o v hv=> ?_,hm.ext,hm.new,fun i o ho=> ?_,hm.sep,hm.os,hm.tape,hm.output,by rw[World.putObj_size]; exact hm.grow,hm.one,fun k hk1 hk2=> ?_,hm.hfix,fun k o hko=> ?_⟩
 ·have hg:g≠b:=fun e=>by rw[e,h2] at hv; cases hv
  rw[World.cell?_of_block (w:=w) (a:=⟨g,o,none⟩) (hoth g hg)]
  exact hm.mem g o v hv
 ·exact (hm.ob i o ho).keep (fun _ hb=>hb) (fun k hk=>hoth k fun e=>h3 i (by rw[ho]; rfl) (e ▸ hk)) (fun _ _ _ h=>h) (fun _ _ _=>rfl) (fun _ _ _ r=>r)
 ·rw[hoth k (fun e=>by subst e; have h':k<cx.w0.heap.size:=hk1; omega)]; exact hm.frame k hk1 hk2
 ·have hne:k≠b:=fun e=>by
   subst e
   simp only[Cx.more,hk,if_neg hb] at hko
   cases hko
  have hko':(cx.more (b::ms)).kp k=some o:=by
   simp only[Cx.more] at hko ⊢
   simpa [hne] using hko
  obtain⟨q1,q2,q3⟩:=hm.kept k o hko'
  exact⟨by rw[hoth k hne]; exact q1,q2,q3⟩
theorem QX {cx:Cx} {fn:Func} {tmps:Array Value} {R:Ending->World->Prop} {s:St} {φ:Mem} {h:Nat->Value} {u:FrameMode} {dd:List Deferred} (hu:u≠ .run) (fin: ∀ w',Mod cx s φ h tmps w'->LeavesInM F n P fn tmps R dd u w') :
  ∀ (ms:List Nat) (w:World),(ms.Nodup/\ ∀ b∈ms,cx.kp b=none/\cx.w0.heap.size<=b)->Mod (cx.more ms) s φ h tmps w->LeavesInM F n P fn tmps R (ms.map mkd++dd) u w:=by
 intro ms
 induction ms with
 | nil =>
  intro w _ hm
  rw[Cx.more_nil] at hm
  exact fin w hm
 | cons b ms ih =>
  intro w hnd hm
  obtain⟨hnd1,hnd2⟩:=hnd
  rw[List.nodup_cons] at hnd1
  obtain⟨hb,hk,hge⟩:=And.intro hnd1.1 (hnd2 b (by simp))
  obtain⟨h1,hm'⟩:=hm.unmark hb hk hge
  exact⟨hu,.inl ⟨b,_,rfl,run_takeDeferred h1,ih _ ⟨hnd1.2,fun c hc=>hnd2 c (List.mem_cons_of_mem _ hc)⟩ hm'⟩⟩
theorem Z0e {cx:Cx} {fn:Func} {tmps:Array Value} {R:Ending->World->Prop} {s:St} {φ:Mem} {h:Nat->Value} (fin: ∀ w',Mod cx s φ h tmps w'-> ∃ v,(results fn tmps).run P w'= .ok v w'/\R (.returned v) w') (ms:List Nat) (w:World) (hnd:ms.Nodup/\ ∀ b∈ms,cx.kp b=none/\cx.w0.heap.size<=b) (hm:Mod (cx.more ms) s φ h tmps w):LeavesInM F n P fn tmps R (ms.map mkd) .returning w:=by
 have:=QX (F:=F) (n:=n) (P:=P) (fn:=fn) (R:=R) (u:= .returning) (dd:=[]) (by simp) fin ms w hnd hm
 simpa using this
theorem Z5R {cx:Cx} {fn:Func} {rs:List SR} (hres:fn.results.toList.mapM (Z23 P)=some rs) {s':St} {φ':Mem} {h':Nat->Value} {tm:Array Value} {ds:List D} (hds:rs.mapM (resD s')=some ds) {w':World} (hm':Mod cx s' φ' h' tm w'): ∃ v,(results fn tm).run P w'= .ok v w'/\RV φ' h' v (Z0w ds):=by
 obtain⟨vs',hvs,hrvs⟩:=Z71 hm' hres hds
 have hrun:(results fn tm).run P w'= .ok (if h:vs'.toArray.size=1 then vs'.toArray[0] else .tuple vs'.toArray) w':=by
  rw[Z88,Sem.run_bind,Array.mapM_eq_mapM_toList,Sem.run_map,hvs]
  rfl
 refine⟨_,hrun, ?_⟩
 match vs',ds,hrvs with
 | [v],[d],hrvs=>exact hrvs.1
 | [],[],_=>exact .tuple _ _ rfl (by simp)
 | v1::v2::vs',d1::d2::ds,hrvs =>
  have hne: ¬ (v1::v2::vs').toArray.size=1:=by simp
  rw[dif_neg hne]
  refine .tuple _ _ (by have:=hrvs.length; simpa using this) (fun j d hd=> ?_)
  have:=hrvs.get j d hd
  simpa [Array.getD_eq_getD_getElem?,List.getD] using this
 | [],_::_,hrvs=>exact hrvs.elim
 | _::_,[],hrvs=>exact hrvs.elim
 | [_],_::_::_,hrvs=>exact hrvs.2.elim
 | _::_::_,[_],hrvs=>exact hrvs.2.elim
def EndQ (rs:List SR) (K:St->D->Prop) (e:Exit) (s:St):Prop:=match e with
 | .normal=> ∃ ds,rs.mapM (resD s)=some ds/\K s (Z0w ds)
 | .ret=> ∃ ds,rs.mapM (resD s)=some ds/\K s (Z0w ds)
 | .panic c=> ∃ v,c=[{ v,recovered:=false }]/\K s (.pan v)
 | _=>False
theorem ZjA [CodesOf P] (Z7:DrawSound P) (hF:Fence.Open F) (hround:F.round=none) {f:FuncId} {sc:SC} {rs:List SR} {cx:Cx} (hgl:GlobC cx.φ0 cx.w0 cx.Z) (hf:FnC P f cx.N sc rs) {K:St->D->Prop} {ob:Obs} {args:List D} {φ:Mem} {h:Nat->Value} {w:World} {vs:Array Value}
  (hlen:vs.size<=cx.N) (hm:Mod cx ⟨Zv 0 args,ob⟩ φ h (vs++Array.replicate (cx.N-vs.size) Go.undef) w)
  (hsw:sw P cx.bs sc (EndQ rs K) ⟨Zv 0 args,ob⟩) :
  CallsIn F n P f vs w fun e w'=> ∃ r s' φ' h' tmps',EndV φ' h' e r/\K s' r/\Mod cx s' φ' h' tmps' w':=by
 obtain⟨fn,c,hi,hfn,hbody,hN,hcomp,hres⟩:=hf.ex
 refine callsIn_of_wp_marks hfn hbody (hF.fn f) ?_ hround
 rw[hN]
 have hr0:InRound F cx:=fun l hl=>by rw[hround] at hl; cases hl
 refine wpIn_mono (Z18 (n:=n) Z7 hF c sc hcomp cx [] rfl rfl hgl hr0 _ _ φ h _ w hm hsw) ?_
 have fin: ∀ (s':St) (φ':Mem) (h':Nat->Value) (tm:Array Value) (ds:List D),rs.mapM (resD s')=some ds->K s' (Z0w ds)-> ∀ w',Mod cx s' φ' h' tm w' →
   ∃ v,(results fn tm).run P w'= .ok v w'/\ ∃ r s' φ' h' tmps',EndV φ' h' (.returned v) r/\K s' r/\Mod cx s' φ' h' tmps' w':=by
  intro s' φ' h' tm ds hds hK w' hm'
  obtain⟨v,hrun,hrv⟩:=Z5R hres hds hm'
  exact⟨v,hrun,Z0w ds,s',φ',h',tm,.inl ⟨v,rfl,hrv⟩,hK,hm'⟩
 rintro e ⟨tm,df⟩ w' ⟨ms,hnd,hdf,s',φ',h',hq,hm'⟩
 simp only[List.append_nil] at hdf
 subst hdf
 cases e with
 | normal=>obtain⟨ds,hds,hK⟩:=hq; exact Z0e (fin s' φ' h' tm ds hds hK) ms w' hnd hm'
 | ret=>obtain⟨ds,hds,hK⟩:=hq; exact Z0e (fin s' φ' h' tm ds hds hK) ms w' hnd hm'
 | panic c =>
  obtain⟨v,rfl,hK⟩:=hq
  have:=QX (F:=F) (n:=n) (P:=P) (fn:=fn) (tmps:=tm) (R:=fun e w'=> ∃ r s' φ' h' tmps',EndV φ' h' e r/\K s' r/\Mod cx s' φ' h' tmps' w') (u:= .panicking [{ v,recovered:=false }]) (dd:=[]) (by simp)
   (fun w' hm'=>⟨_,s',φ',h',tm,.inr ⟨v,rfl,rfl⟩,hK,hm'⟩) ms w' hnd hm'
  show LeavesInM F n P fn tm _ (ms.map mkd) _ w'
  rw[List.append_nil] at this
  exact this
 | exit _=>exact hq.elim
 | goto _=>exact hq.elim
 | outgrown=>exact hq.elim
end
def dvt (obs:Nat->Option Ob):D->D
 | .tuple ds=> .tuple (ds.map (dv obs))
 | .agg ds=> .agg (ds.map (dv obs))
 | d=>dv obs d
theorem Z5d {own:Nat->Prop} {φ:Mem} {h:Nat->Value} {w:World} {obs:Nat->Option Ob} (hobs: ∀ i ob,obs i=some ob->live (h i)=true->ObR own φ h w (h i) ob) {v:Value} {d:D} (r:RV φ h v d):RV φ h v (dvt obs d):=by
 unfold dvt
 split
 ·obtain⟨vs,rfl,h1,h2⟩:=r.tuple_inv
  refine .tuple _ _ (by simpa using h1) fun j d hd=> ?_
  rw[List.getElem?_map] at hd
  cases hq:(_:List D)[j]? with
  | none=>rw[hq] at hd; cases hd
  | some d'=>rw[hq] at hd; simp at hd; subst hd; exact Z0B hobs (h2 j d' hq)
 ·obtain⟨vs,rfl,h1,h2⟩:=r.agg_inv
  refine .agg _ _ (by simpa using h1) fun j d hd=> ?_
  rw[List.getElem?_map] at hd
  cases hq:(_:List D)[j]? with
  | none=>rw[hq] at hd; cases hd
  | some d'=>rw[hq] at hd; simp at hd; subst hd; exact Z0B hobs (h2 j d' hq)
 ·exact Z0B hobs r
def St.fin (k:Nat) (s:St) (r:D):St:=canS k (newN k s.ob [(0,r)]) [(0,r)] s.ob
def RetL (k:Nat) (R:D->Obs->Prop) (s:St) (r:D):Prop:=R ((s.fin k r).get (.t 0)) (s.fin k r).ob
section
variable {P:Program} {F:Fence} {n:Nat}
theorem Mod.leave {cx:Cx} {s':St} {φ φ':Mem} {h h':Nat->Value} {tmps':Array Value} {w w':World} {ob:Obs} {k:Nat} (hw0:cx.w0=w) (hφ0:cx.φ0=φ) (hZ:cx.Z=ZOf ob h) (hbs:cx.bs=k) (hh0:cx.h0=h) (hgl:GlobC φ w (ZOf ob h)) (hob:Obs.top ob<=k)
  (hm:Mod cx s' φ' h' tmps' w') {v:Value} {r:D} (hv:RV φ' h' v r): ∃ h2,RV φ' h2 v ((s'.fin k r).get (.t 0))/\After ob φ h w (s'.fin k r).ob φ' h2 w':=by
 subst hw0
 subst hφ0
 subst hbs
 let cx1:Cx:={ cx with N:=1 }
 have hm1:Mod cx1 ⟨[(0,r)],s'.ob⟩ φ' h' #[v] w':=by
  refine⟨rfl,fun t d hd=> ?_,hm.mem,hm.ext,hm.new,hm.ob,hm.sep,hm.os,hm.tape,hm.output,hm.grow,hm.one,hm.frame,hm.hfix,hm.kept⟩
  simp only[lk] at hd
  split at hd
  ·rename_i e; cases hd; subst e; exact hv
  ·cases hd
 obtain⟨h2,hren,hm2⟩:=hm1.canS (tm:=[(0,r)]) (fun _ _ h=>h) (nw:=newN cx.bs s'.ob [(0,r)])
 have hm3:Mod cx1 (s'.fin cx.bs r) φ' h2 #[v] w':=hm2
 refine⟨h2, ?_,⟨⟨hm3.one,(hm3.glob (by show GlobC cx.φ0 cx.w0 cx.Z; rw[hZ]; exact hgl)).sub fun b hb=>hm3.zof hb,hm3.mem,fun i o ho=> ?_,hm3.sep⟩,hm3.ext,fun b o u h1 h2=> ?_,fun b h1 h2=>hm3.frame b h1 (by show ¬ cx.Z b; rw[hZ]; exact h2),fun i hi=> ?_,hm3.os,hm3.tape,hm3.output,hm3.grow⟩⟩
 ·exact hren v r hv
 ·have:=hm3.ob i o ho
  exact this.keep (fun b hb=>hb.elim .inl fun h=> .inr (by have h':cx.Z b:=h; rw[hZ] at h'; exact h')) (fun _ _=>rfl) (fun _ _ _ h=>h) (fun _ _ _=>rfl) (fun _ _ _ r=>r)
 ·exact (hm3.new b o u h1 h2).elim .inl fun h=> .inr (by have h':cx.Z b:=h; rw[hZ] at h'; exact h')
 ·obtain⟨o,ho⟩:=Option.isSome_iff_exists.1 hi
  have:=(Obs.top_get hob ho).1
  rw[<- hh0]
  exact hm3.hfix i this
theorem Loc.enter {ob ob1:Obs} {φ:Mem} {h:Nat->Value} {w:World} (hl:Loc (fun _=>True) ob φ h w) {N k:Nat} {E:Env} {vs:Array Value} {kp:Nat->Option Obj}
  (hsz:vs.size=N) (hvs: ∀ t d,lk E t=some d->RV φ h (vs.getD t Go.undef) d) (hob1: ∀ i o,lk ob1 i=some o->lk ob i=some o)
  (hkp: ∀ b o,kp b=some o->w.heap[b]? = some o/\(∀ off,φ b off=none)/\ ∀ i,(lk ob1 i).isSome->blk (h i)≠some b) :
  Mod { N,w0:=w,φ0:=φ,Z:=ZOf ob h,bs:=k,h0:=h,kp } ⟨E,ob1⟩ φ h vs w:=by
 refine⟨hsz,hvs,hl.mem,fun _ _ _ h=>h,(fun b o v h h'=>by have h2:φ b o=none:=h'; rw[h] at h2; cases h2),fun i o ho=> ?_,fun i j b hi hj=> ?_,rfl,rfl,rfl,Nat.le_refl _,hl.one,fun _ _ _=>rfl,fun _ _=>rfl,hkp⟩
 ·have hob:=hl.obj i o (hob1 i o ho)
  have: ∀ b,blk (h i)=some b->ZOf ob h b:=fun b hb=>⟨i,by rw[hob1 i o ho]; rfl,hb⟩
  revert this hob
  generalize h i=hv
  intro hob hz
  cases o with
  | cells cs=>obtain⟨b,vals,e,rfl,_,q⟩:=hob; exact⟨b,vals,e,rfl,.inr (hz b rfl),q⟩
  | gen g gs=>obtain⟨b,vals,o,hb,_,q⟩:=hob; exact⟨b,vals,o,hb,.inr (hz b hb),q⟩
  | arr fz sz e es=>obtain⟨q1,q2,xs,q3,q4,q5⟩:=hob; exact⟨q1,q2,xs,q3,q4,fun b hb=>⟨.inr (hz b hb),(q5 b hb).2⟩⟩
 ·obtain⟨oi,hoi⟩:=Option.isSome_iff_exists.1 hi
  obtain⟨oj,hoj⟩:=Option.isSome_iff_exists.1 hj
  exact hl.sep i j b (by rw[hob1 i oi hoi]; rfl) (by rw[hob1 j oj hoj]; rfl)
theorem Z35 {φ:Mem} {h:Nat->Value} {N:Nat} {ds:List D} {vs:Array Value} (hr:RVL φ h vs.toList ds) (t:Nat) (d:D) (hd:lk (Zv 0 ds) t=some d):RV φ h ((vs++Array.replicate (N-vs.size) Go.undef).getD t Go.undef) d:=by
 obtain⟨_,hd'⟩:=Z7g ds 0 t d hd
 simp only[Nat.sub_zero] at hd'
 have hlen:=hr.length
 have hlt:=(List.getElem?_eq_some_iff.1 hd').1
 have:=hr.get t d hd'
 have e:(vs++Array.replicate (N-vs.size) Go.undef).getD t Go.undef=vs.toList.getD t Go.undef:=by
  simp only[Array.getD_eq_getD_getElem?,List.getD]
  rw[Array.getElem?_append_left (by simpa [<- hlen] using hlt)]
  simp
 rw[e]; exact this
theorem QD {φ:Mem} {h:Nat->Value}: ∀ {vs:List Value} {ds:List D} {vs':List Value} {ds':List D},RVL φ h vs ds->RVL φ h vs' ds'->RVL φ h (vs++vs') (ds++ds')
 | [],[],_,_,_,h2=>h2
 | _::_,_::_,_,_,h1,h2=>⟨h1.1,QD h1.2 h2⟩
 | [],_::_,_,_,h1,_=>h1.elim
 | _::_,[],_,_,h1,_=>h1.elim
theorem CallL.fn [CodesOf P] (Z7:DrawSound P) {f:FuncId} {N:Nat} {sc:SC} {rs:List SR} (hf:FnC P f N sc rs) (hpf:QE P f=true) {first caps args:List D} {ob:Obs} {R:D->Obs->Prop} (k:Nat) (hk:Obs.top ob<=k)
  (hlen:(first++args++caps).length<=N)
  (hsw:sw P k sc (EndQ rs (RetL k R)) ⟨Zv 0 (first++args++caps),ob⟩) :
  CallL P (.func (.func f) first caps) args ob R:=by
 intro F hF n φ h w v vs hp hv hvs
 obtain⟨va,vc,rfl,ha,hc,ha',hc'⟩:=func_inv hv
 rw[Qf hpf]
 show CallsIn F n P f (va++vs++vc) w _
 have hall:RVL φ h (va++vs++vc).toList (first++args++caps):=by
  rw[Array.toList_append,Array.toList_append]
  exact QD (QD (ZB _ _ (by simpa using ha) fun j d hd=>by have:=ha' j d hd; simpa [Array.getD_eq_getD_getElem?,List.getD] using this) hvs)
   (ZB _ _ (by simpa using hc) fun j d hd=>by have:=hc' j d hd; simpa [Array.getD_eq_getD_getElem?,List.getD] using this)
 have hsz:(va++vs++vc).size<=N:=by
  have:=hall.length
  simp only[Array.length_toList] at this
  omega
 refine hF.calls (callsIn_wide (n:=0).1 ?_) n
 have hm':=hp.enter (N:=N) (k:=k) (kp:=fun _=>none) (vs:=(va++vs++vc)++Array.replicate (N-(va++vs++vc).size) Go.undef) (by rw[Array.size_append,Array.size_replicate]; omega) (fun t d hd=>Z35 hall t d hd) (ob1:=ob) (fun _ _ h=>h) (fun _ _ h=>by cases h)
 refine CallsIn.mono (ZjA (cx:={ N,w0:=w,φ0:=φ,Z:=ZOf ob h,bs:=k,h0:=h,kp:=fun _=>none }) Z7 Z2N rfl hp.glob hf (K:=RetL k R) hsz hm' hsw) ?_
 rintro e w' ⟨r,s',φ',h',tmps',hend,hR,hm2⟩
 rcases hend with ⟨v,rfl,hrv⟩ | ⟨v,rfl,rfl⟩
 ·obtain⟨h2,q1,q2⟩:=hm2.leave rfl rfl rfl rfl rfl hp.glob hk hrv
  exact .ret hR q1 q2
 ·obtain⟨h2,q1,q2⟩:=hm2.leave rfl rfl rfl rfl rfl hp.glob hk (.undef Go.undef)
  exact⟨_,_,φ',h2,.inr ⟨v,rfl,rfl⟩,hR,q2⟩
theorem Loc.frz {own:Nat->Prop} {ob:Obs} {φ:Mem} {h:Nat->Value} {w:World} (hl:Loc own ob φ h w):(∀ b o v,φ b o=some v->memZ ob φ h w b o=some v)/\(∀ b o v,memZ ob φ h w b o=some v->φ b o=none->own b)/\Loc own (frzO ob) (memZ ob φ h w) h w:=by
 obtain⟨hmono,hnew,hmem,hobj,hsep⟩:=Z9Q hl.mem hl.obj hl.sep
 have hzof: ∀ b,ZOf (frzO ob) h b->ZOf ob h b:=fun b ⟨i,hi,hb⟩=>⟨i,by rw[Z2V] at hi; cases hq:lk ob i with
  | none=>rw[hq] at hi; cases hi
  | some o=>rfl,hb⟩
 exact⟨hmono,hnew,hl.one,⟨fun g cs hg=>(hl.glob.ok g cs hg).mono hmono,fun g arr hx=>⟨(hl.glob.x g arr hx).1,fun hz=>(hl.glob.x g arr hx).2 (hzof _ hz)⟩,fun g hx=>⟨(hl.glob.i g hx).1,fun hz=>(hl.glob.i g hx).2 (hzof _ hz)⟩⟩,hmem,hobj,hsep⟩
theorem CallL.frzAll {P:Program} {d:D} {args:List D} {ob:Obs} {R:D->Obs->Prop} (hc:CallL P d args ob R):CallL P d args ob fun r o=> ∃ o0,o=frzO o0/\R r o0:=by
 intro F hF n φ h w v vs hp hv hvs
 refine (hc F hF n φ h w v vs hp hv hvs).mono ?_
 rintro e w' ⟨r,ob',φ',h',hend,hR,ha⟩
 obtain⟨q1,q2,q3⟩:=ha.loc.frz
 refine⟨r,frzO ob',memZ ob' φ' h' w',h', ?_,⟨ob',rfl,hR⟩,⟨q3,fun b o v hv=>q1 b o v (ha.ext b o v hv),fun b o v h1 h2=> ?_,ha.frame,ha.hfix,ha.os,ha.tape,ha.output,ha.grow⟩⟩
 ·rcases hend with ⟨v,he,hrv⟩ | h
  ·exact .inl ⟨v,he,hrv.mono q1⟩
  ·exact .inr h
 ·cases hq:φ' b o with
  | some u=>exact ha.new b o u hq h2
  | none=>exact q2 b o v h1 hq
def ZjV (r:D) (d:D) (ob:Obs):Prop :=
 (∃ id sz e es,d= .vec id/\lk ob id=some (.arr true sz e es)/\r= .own sz e es)\/(D.clo (dvt (lk ob) d)=true/\r=dvt (lk ob) d)
def RetK (r:D) (d:D) (ob:Obs):Prop :=
 (∃ id sz e es,d= .vec id/\lk (frzO ob) id=some (.arr true sz e es)/\r= .own sz e es)\/(D.clo (dvt (lk (frzO ob)) d)=true/\r=dvt (lk (frzO ob)) d)
theorem FnOK.of_call0 {f:FuncId} (hpf:QE P f=true) {args:List D} {r:D} (hc:CallL P (.func (.func f) [] []) args [] (ZjV r)):FnOK P f args r:=by
 intro φ hh w vs hone hgl hsub hsz hargs
 have hl:Loc (fun _=>True) [] φ hh w:=⟨hone,hgl.sub (fun b ⟨i,hi,_⟩=>by simp[lk] at hi),hsub,fun i o ho=>by simp[lk] at ho,fun i j b hi=>by simp[lk] at hi⟩
 have hvs:RVL φ hh vs.toList args:=ZB _ _ (by simpa using hsz) fun j d hd=>by have:=hargs j d hd; simpa [Array.getD_eq_getD_getElem?,List.getD] using this
 have hout:=hc _ Z2N 0 φ hh w (.func (.func f) #[] #[]) vs hl (.func _ _ _ _ _ rfl rfl (by simp) (by simp)) hvs
 rw[Qf hpf] at hout
 have hout':CallsIn Fence.wide 0 P f (#[]++vs++ #[]) w (Post [] φ hh w (ZjV r)):=hout
 simp only[Array.empty_append,Array.append_empty] at hout'
 refine (callsIn_wide (n:=0).1 hout').mono ?_
 intro e w' hpost
 obtain⟨v,d,ob',φ',h',rfl,hK,hv,ha⟩:=hpost.dest fun d ob' hK=>by
  rcases hK with ⟨id,sz,e,es,rfl,_⟩ | ⟨hc,_⟩
  ·rfl
  ·cases d <;> first | rfl | (simp[dvt,dv,D.clo] at hc)
 have hz: ∀ b,¬ ZOf [] hh b:=fun b ⟨i,hi,_⟩=>by simp[lk] at hi
 have hbel:Below w.heap.size w w':=⟨ha.os,ha.tape,ha.output,ha.grow,fun k hk=>ha.frame k hk (hz k)⟩
 refine⟨v,φ',rfl, ?_,hbel,ha.ext,ha.loc.mem,fun b o u h1 h2=>(ha.new b o u h1 h2).elim id fun h=>(hz b h).elim⟩
 rcases hK with ⟨id,sz,e,es,rfl,hob,rfl⟩ | ⟨hclo,rfl⟩
 ·have:=ha.loc.obj id _ hob
  rw[<- hv.vec_inv] at this
  exact this.keep (h':=noH) (fun b hb=>hb.elim (fun h=>h) fun h=>(hz b h).elim) (fun _ _=>rfl) (fun _ _ _ h=>h) (fun _ _ _=>rfl) (fun _ _ he=>by cases he)
 ·have hv':=Z5d (obs:=lk ob') (own:=fun b=>w.heap.size<=b\/ZOf [] hh b) (fun i ob hi _=>ha.loc.obj i ob hi) hv
  revert hv' hclo
  generalize dvt (lk ob') d=r
  intro hclo hv'
  have hall: ∀ h2,RV φ' h2 v r:=fun h2=>hv'.closed hclo h2
  cases r <;> first | exact hall | (simp[D.clo] at hclo)
theorem FnOK.of_call {f:FuncId} (hpf:QE P f=true) {args:List D} {r:D} (hc:CallL P (.func (.func f) [] []) args [] (RetK r)):FnOK P f args r :=
 FnOK.of_call0 hpf (hc.frzAll.mono fun d o ⟨o0,h1,h2⟩=>by subst h1; exact h2)
end
end Go.Sx
namespace Go.Sx
open Go.RowKit
variable [Globs] [Codes]
def putP:List (Nat × D)->Env->Env
 | [],tm=>tm
 | (t,d)::r,tm=>putP r ((t,d)::Za t tm)
section
variable {P:Program} {F:Fence} {n:Nat}
theorem Z9J {φ:Mem} {h:Nat->Value}: ∀ (ps:List Nat) (vs:List Value) (ds:List D) (tm:Env) (tmps:Array Value),RVL φ h vs ds->(∀ t∈ps,t<tmps.size)->(∀ t d,lk tm t=some d->RV φ h (tmps.getD t Go.undef) d) →
  ∀ t d,lk (putP (ps.zip ds) tm) t=some d->RV φ h (((ps.zip vs).foldl (fun tm x=>tm.setIfInBounds x.1 x.2) tmps).getD t Go.undef) d
 | [],vs,ds,tm,tmps,_,_,h3=>by simpa [putP] using h3
 | p::ps,v::vs,d0::ds,tm,tmps,h1,h2,h3=>by
  intro t d hl
  simp only[List.zip_cons_cons,putP] at hl
  simp only[List.zip_cons_cons,List.foldl_cons]
  refine Z9J ps vs ds _ (tmps.setIfInBounds p v) h1.2 (fun t ht=>by simpa using h2 t (List.mem_cons_of_mem _ ht)) (fun t d hl=> ?_) t d hl
  rw[ZQ] at hl
  simp only[lk] at hl
  have hp:=h2 p (by simp)
  split at hl
  ·rename_i e; cases hl; subst e
   have:(tmps.setIfInBounds t v).getD t Go.undef=v:=by simp[Array.getD,hp]
   rw[this]; exact h1.1
  ·rename_i e
   have:(tmps.setIfInBounds p v).getD t Go.undef=tmps.getD t Go.undef:=by simp[Array.getD_eq_getD_getElem?,Ne.symm e]
   rw[this]; exact h3 t d hl
 | p::ps,[],[],tm,tmps,_,_,h3=>by simpa [putP] using h3
 | _::_,[],_::_,_,_,h1,_,_=>h1.elim
 | _::_,_::_,[],_,_,h1,_,_=>h1.elim
theorem Z28: ∀ (l:List (Nat × Value)) (tmps:Array Value),(l.foldl (fun tm x=>tm.setIfInBounds x.1 x.2) tmps).size=tmps.size
 | [],_=>rfl
 | _::l,tmps=>by rw[List.foldl_cons,Z28 l]; simp
def Cx.setk (cx:Cx) (l:Nat) (o:Obj):Cx:={ cx with kp:=fun b=>if b=l then some o else cx.kp b }
theorem Mod.setKp {cx:Cx} {s:St} {φ:Mem} {h:Nat->Value} {tmps:Array Value} {w:World} {l:Nat} {o0 o1:Obj} (hm:Mod cx s φ h tmps w) (hk:cx.kp l=some o0) (hown:cx.own l):Mod (cx.setk l o1) s φ h tmps (w.putObj l o1):=by
 obtain⟨h1,h2,h3⟩:=hm.kept l o0 hk
 have hlt:=(Array.getElem?_eq_some_iff.1 h1).1
 have hoth: ∀ k,k≠l->(w.putObj l o1).heap[k]? = w.heap[k]? := fun k hk=>World.putObj_heap_other hk
 refine⟨hm.size,hm.tm,fun g o v hv=> ?_,hm.ext,hm.new,fun i o ho=> ?_,hm.sep,hm.os,hm.tape,hm.output,by rw[World.putObj_size]; exact hm.grow,hm.one,fun k hk1 hk2=> ?_,hm.hfix,fun k o hko=> ?_⟩
 ·have hg:g≠l:=fun e=>by rw[e,h2] at hv; cases hv
  rw[World.cell?_of_block (w:=w) (a:=⟨g,o,none⟩) (hoth g hg)]
  exact hm.mem g o v hv
 ·exact (hm.ob i o ho).keep (fun _ hb=>hb) (fun k hk=>hoth k fun e=>h3 i (by rw[ho]; rfl) (e ▸ hk)) (fun _ _ _ h=>h) (fun _ _ _=>rfl) (fun _ _ _ r=>r)
 ·rw[hoth k (fun e=>by subst e; exact hown.elim (fun h=>by have h':k<cx.w0.heap.size:=hk1; omega) (fun h=>hk2 h))]; exact hm.frame k hk1 hk2
 ·simp only[Cx.setk] at hko
  split at hko
  ·rename_i e
   cases hko
   subst e
   exact⟨World.putObj_heap_same hlt,h2,h3⟩
  ·rename_i e
   obtain⟨q1,q2,q3⟩:=hm.kept k o hko
   exact⟨by rw[hoth k e]; exact q1,q2,q3⟩
def YRet (P:Program) (k:Nat) (R:D->Obs->Prop) (rid N:Nat) (ps:Array Tmp) (a b:SC) (keys:List Nat) (ds:List D) (pend:Option Code) (s:St):Prop :=
 R (.bool pend.isNone) ((rid,.gen (.loop (if pend.isNone then .ready else .done) pend ps a b N keys) ds)::(s.canon k []).ob)
theorem Zds {t:Nat} {d:D}: ∀ {keys:List Nat} {ds:List D},lk (keys.zip ds) t=some d-> ∃ j:Nat,keys[j]? = some t/\ds[j]? = some d
 | [],_,h=>by simp[lk] at h
 | _::_,[],h=>by simp[lk] at h
 | k::keys,x::ds,h=>by
  simp only[List.zip_cons_cons,lk] at h
  split at h
  ·rename_i e; cases h; exact⟨0,by simp[e],by simp⟩
  ·obtain⟨j,h1,h2⟩:=Zds h
   exact⟨j+1,by simpa using h1,by simpa using h2⟩
theorem ZaR {s:St} {k rid:Nat} (h:lk s.ob rid=none) (hk:rid<k):lk (s.canon k []).ob rid=none:=by
 cases hq:lk (s.canon k []).ob rid with
 | none=>rfl
 | some o =>
  exfalso
  simp only[St.canon,frzT,hasF,thaw,hasS,List.any_nil,canS] at hq
  rw[Z09,Zt] at hq
  cases h1:lk (oldO k (canG k (newN k s.ob (kept s.tm []))) s.ob) rid with
  | some o' =>
   obtain⟨_,o0,h2,_⟩:=Z4o _ _ _ h1
   rw[h] at h2; cases h2
  | none =>
   rw[h1] at hq
   simp only[Option.none_or] at hq
   obtain⟨i,o0,h2,h3,_⟩:=Z2Q _ _ _ _ hq
   simp only[canG] at h2
   split at h2
   ·cases h2; rw[h] at h3; cases h3
   ·cases h4:idx i (newN k s.ob (kept s.tm [])) with
    | none=>rw[h4] at h2; cases h2
    | some q=>rw[h4] at h2; simp at h2; omega
theorem CallL.yld [CodesOf P] (Z7:DrawSound P) {N:Nat} {ps:Array Tmp} {a b:SC} {keys:List Nat} {ds:List D} {rid:Nat} {args:List D} {ob:Obs} {R:D->Obs->Prop} (k:Nat) (hk:Obs.top ob<=k)
  (hrec:lk ob rid=some (.gen (.loop .ready none ps a b N keys) ds)) (hps:ps.size=args.length) (hpN: ∀ t∈ps.toList,t<N)
  (hsw:sw P k a (fun e s=>match e with
   | .normal=>sw P k b (fun e s'=>lk s'.ob rid=none/\match e with
    | .normal=>YRet P k R rid N ps a b keys ds none s'
    | .ret=>YRet P k R rid N ps a b keys ds (some .ret) s'
    | .exit i=>YRet P k R rid N ps a b keys ds (some (.exit i)) s'
    | _=>False) s
   | _=>False) ⟨putP (ps.toList.zip args) (keys.zip ds),Za rid ob⟩) :
  CallL P (.yld rid) args ob R:=by
 intro F hF n φ h w v vs hp hv hvs
 obtain⟨l,hhl,rfl⟩: ∃ l,h rid= .pointer (some ⟨l,0,none⟩)/\v= .func (.yield l) #[] #[]:=by
  cases hv with
  | pure r=>cases r
  | yld _ l hh=>exact⟨l,hh,rfl⟩
 have hob:=hp.obj rid _ hrec
 rw[hhl] at hob
 obtain⟨b0,vals,o,hb0,hown,hheap,hgis,hvl,hvrv,hnone⟩:=hob
 cases hb0
 obtain⟨_,r,rfl,hst,hpe,hpar,hca,hcb,htsz,rfl⟩:=hgis
 obtain⟨hia,ha⟩:=(CodesOf.ci (P:=P) _ _ _).1 hca
 obtain⟨hib,hb⟩:=(CodesOf.ci (P:=P) _ _ _).1 hcb
 have hlt:=(Array.getElem?_eq_some_iff.1 hheap).1
 have hridk:rid<k:=(Obs.top_get hk hrec).1
 have hvsz:vs.size=r.params.size:=by rw[hpar,hps]; have:=hvs.length; simpa using this
 have hrv0: ∀ t d,lk (keys.zip ds) t=some d->RV φ h (r.tmps.getD t Go.undef) d:=fun t d hl=>by
  obtain⟨j,h1,h2⟩:=Zds hl
  have h3:=hvrv j d h2
  have:(keys.map fun t=>r.tmps.getD t Go.undef).getD j Go.undef=r.tmps.getD t Go.undef:=by simp[List.getD,List.getElem?_map,h1]
  rw[this] at h3
  exact h3
 -- the round's frame
 have hrun:(Z4C (.func (.yield l) #[] #[]) vs).run P w= .ok (.round l r.fn ((r.params.zip vs).foldl (fun tmps (t,a)=>tmps.setIfInBounds t a) r.tmps) r.assign r.body) w:=by
  simp only[Z4C,Deferred.ofValue,invoke,Sem.run_bind,Sem.run_pure,Result.andThen_ok]
  rw[Array.empty_append]
  exact run_yield hheap hvsz
 rw[hrun]
 show RoundIn F n P l r.fn _ r.assign r.body w _
 refine roundIn_of_wpIn (hF.fn _) ?_
 have hfold:(r.params.zip vs).foldl (fun tmps (t,a)=>tmps.setIfInBounds t a) r.tmps=(ps.toList.zip vs.toList).foldl (fun tm x=>tm.setIfInBounds x.1 x.2) r.tmps:=by
  rw[hpar,<- Array.foldl_toList,Array.toList_zip]
 rw[hfold]
 have htmsz:((ps.toList.zip vs.toList).foldl (fun tm x=>tm.setIfInBounds x.1 x.2) r.tmps).size=N:=by rw[Z28,htsz]
 have hm':=hp.enter (N:=N) (k:=k) (kp:=fun b=>if b=l then some (.loop r) else none) (E:=putP (ps.toList.zip args) (keys.zip ds)) (ob1:=Za rid ob) htmsz
  (Z9J ps.toList vs.toList args (keys.zip ds) r.tmps hvs (fun t ht=>by rw[htsz]; exact hpN t ht) hrv0)
  (fun i o ho=>by
   rw[ZE] at ho
   split at ho
   ·cases ho
   ·exact ho)
  (fun q o hq=>by
   split at hq
   ·rename_i e
    cases hq
    subst e
    refine⟨hheap,hnone,fun i hi hbi=> ?_⟩
    rw[ZE] at hi
    split at hi
    ·cases hi
    ·rename_i hne
     exact hne (hp.sep i rid q hi (by rw[hrec]; rfl) hbi (by rw[hhl]; rfl))
   ·cases hq)
 have hZl:ZOf ob h l:=⟨rid,by rw[hrec]; rfl,by rw[hhl]; rfl⟩
 refine wpIn_mono (Z18 (n:=n) Z7 (hF.inRound l) r.assign a ha _ [] rfl rfl hp.glob (fun l' hl'=>⟨r,by
  have:some l=some l':=hl'
  cases this
  simp⟩) _ _ φ h _ w hm' hsw) ?_
 rintro e a1 w1 ⟨ms1,hnd1,hdf1,s1,φ1,h1,hq1,hm1⟩
 cases e <;> try exact hq1.elim
 -- the round begins
 have hk1: ∀ {cx1:Cx},cx1.kp l=some (.loop r)-> ∀ ms,(cx1.more ms).kp l=some (.loop r):=fun hk ms=>by simp[Cx.more,hk]
 have hk1':=hk1 (cx1:={ N,w0:=w,φ0:=φ,Z:=ZOf ob h,bs:=k,h0:=h,kp:=fun b=>if b=l then some (.loop r) else none }) (by simp) ms1
 have hheap1:=(hm1.kept l _ hk1').1
 refine⟨_,run_beginRound hheap1 hst, ?_⟩
 have hm1b:=hm1.setKp (o1:= .loop { r with state:= .busy }) hk1' (.inr hZl)
 obtain⟨tm1,df1⟩:=a1
 refine wpIn_mono (Z18 (n:=n) Z7 (hF.inRound l) r.body b hb _ df1 rfl rfl hp.glob (fun l' hl'=>⟨{ r with state:= .busy },by
  have:some l=some l':=hl'
  cases this
  simp[Cx.setk]⟩) _ _ φ1 h1 tm1 _ hm1b hq1) ?_
 rintro e a2 w2 ⟨ms2,hnd2,hdf2,s2,φ2,h2,⟨hrn,hq2⟩,hm2⟩
 have hk2:((Cx.setk (Cx.more { N,w0:=w,φ0:=φ,Z:=ZOf ob h,bs:=k,h0:=h,kp:=fun b=>if b=l then some (.loop r) else none } ms1) l (.loop { r with state:= .busy })).more ms2).kp l=some (.loop { r with state:= .busy }):=by
  simp[Cx.more,Cx.setk]
 have hheap2:=(hm2.kept l _ hk2).1
 have fin: ∀ pend:Option Code,YRet P k R rid N ps a b keys ds pend s2 →
   ∃ v w',(Instr.endRound l pend).run P w2= .ok v w'/\Post ob φ h w R (.returned v) w':=by
  intro pend hy
  refine⟨_,_,run_endRound pend hheap2, ?_⟩
  have hm3:=hm2.setKp (o1:= .loop { { r with state:= .busy } with state:=if pend.isNone then .ready else .done,pending:=pend }) hk2 (.inr hZl)
  obtain⟨hh,_,hm4⟩:=hm3.canS (tm:=[]) (fun _ _ h=>by simp[lk] at h) (nw:=newN k s2.ob [])
  have hcn:canS k (newN k s2.ob []) [] s2.ob=s2.canon k []:=rfl
  have hm5:Mod _ (s2.canon k []) φ2 hh _ _:=hm4
  have hhl':hh rid= .pointer (some ⟨l,0,none⟩):=by rw[hm5.hfix rid hridk]; exact hhl
  have hrn':=ZaR hrn hridk
  have hkl:=hm5.kept l (.loop { { r with state:= .busy } with state:=if pend.isNone then .ready else .done,pending:=pend }) (by simp[Cx.setk])
  refine .ret hy (.pure (.bool _)) ⟨⟨hm5.one,(hm5.glob hp.glob).sub (fun b ⟨i,hi,hb⟩=>by
   simp only[lk] at hi
   split at hi
   ·rename_i e
    subst e
    rw[hhl'] at hb
    simp only[blk,Option.some.injEq] at hb
    exact hb ▸ .inr hZl
   ·exact hm5.zof ⟨i,hi,hb⟩),hm5.mem,fun i o ho=> ?_,fun i j q hi hj hqi hqj=> ?_⟩,hm5.ext,fun b o u q1 q2=>(hm5.new b o u q1 q2),fun b q1 q2=>hm5.frame b q1 q2,fun i hi=> ?_,hm5.os,hm5.tape,hm5.output,hm5.grow⟩
  ·simp only[lk] at ho
   split at ho
   ·rename_i e
    subst e
    cases ho
    rw[hhl']
    refine⟨l,keys.map fun t=>r.tmps.getD t Go.undef,_,rfl,.inr hZl,hkl.1,⟨⟨l,rfl⟩,_,rfl,rfl,rfl,hpar,hca,hcb,htsz,rfl⟩,hvl,fun j d hd=> ?_,fun off=>hkl.2.1 off⟩
    have hdt:D.top d<=k:=Z4b (Obs.top_get hk hrec).2 (List.mem_of_getElem? hd)
    exact ((hvrv j d hd).mono hm5.ext).under hdt fun i hi=>hm5.hfix i hi
   ·have hob:=hm5.ob i o ho
    exact hob.keep (fun b hb=>hb) (fun _ _=>rfl) (fun _ _ _ h=>h) (fun _ _ _=>rfl) (fun _ _ _ r=>r)
  ·have key: ∀ i',(lk (s2.canon k []).ob i').isSome->blk (hh i')=some q->blk (hh rid)=some q->False:=fun i' h1 h2 h3=>by
    rw[hhl'] at h3
    cases h3
    exact hkl.2.2 i' h1 h2
   simp only[lk] at hi hj
   by_cases e1:i=rid <;> by_cases e2:j=rid
   ·rw[e1,e2]
   ·rw[if_neg e2] at hj
    exact (key j hj hqj (by rw[<- e1]; exact hqi)).elim
   ·rw[if_neg e1] at hi
    exact (key i hi hqi (by rw[<- e2]; exact hqj)).elim
   ·rw[if_neg e1] at hi
    rw[if_neg e2] at hj
    exact hm5.sep i j q hi hj hqi hqj
  ·obtain⟨o,ho⟩:=Option.isSome_iff_exists.1 hi
   exact hm5.hfix i (Obs.top_get hk ho).1
 cases e <;> first | exact hq2.elim | exact fin _ hq2
end
end Go.Sx
namespace Go.Sx
open Go.RowKit
variable [Globs] [Codes]
section congr
variable {P:Program} {dst:Nat} {obs obs':Nat->Option Ob} {K:D->Option Ob->Prop}
theorem Z7s {d:D} (h: ∀ i∈vids [d],obs i=obs' i):dv obs d=dv obs' d:=by
 cases d <;> first | rfl | (rename_i id; simp only[dv]; rw[h id (by simp[vids])])
theorem QM {d:D} {r:List D} {i:Nat}:i∈vids (d::r) ↔ i∈vids [d]\/i∈vids r:=by
 cases d <;> simp[vids]
theorem Z36: ∀ {ds:List D},(∀ i∈vids ds,obs i=obs' i)->ds.map (dv obs)=ds.map (dv obs')
 | [],_=>rfl
 | d::r,h=>by
  rw[List.map_cons,List.map_cons,Z7s fun i hi=>h i (QM.2 (.inl hi)),Z36 fun i hi=>h i (QM.2 (.inr hi))]
theorem Z2j: ∀ {ps:List (Nat × Nat)} {ds cs:List D},(∀ i∈vids ds,obs i=obs' i)->QS obs cs ps ds=QS obs' cs ps ds
 | [],[],cs,_=>rfl
 | [],_::_,cs,_=>rfl
 | _::_,[],cs,_=>rfl
 | (off,sz)::ps,d::ds,cs,h=>by
  simp only[QS]
  rw[Z7s (obs':=obs') fun i hi=>h i (QM.2 (.inl hi))]
  split
  ·exact Z2j fun i hi=>h i (QM.2 (.inr hi))
  ·rfl
theorem Z1D {d:D} (h: ∀ i∈vids [d],obs i=obs' i):Z05 obs d=Z05 obs' d:=by
 cases d <;> first | rfl | (rename_i id; simp only[Z05]; rw[h id (by simp[vids])])
theorem Z5J {d:D} (h: ∀ i∈vids [d],obs i=obs' i):Z3m obs d=Z3m obs' d:=by
 cases d <;> first | rfl | (rename_i id; simp only[Z3m]; rw[h id (by simp[vids])])
theorem Z95 {sz:SK} {a b id:Nat} {x y:D} {o:Ob} (h:stO sz x y obs=some (a,b,id,o)) (hi:obs id=obs' id):stO sz x y obs'=some (a,b,id,o):=by
 unfold stO at h ⊢
 cases x with
 | ptr id' off =>
  cases sz with
  | m key=>cases h
  | k kd x=>cases h
  | cp _ _=>cases h
  | c sz =>
  simp only at h ⊢
  have e:id'=id:=by
   cases hq:obs id' with
   | none=>rw[hq] at h; cases h
   | some q =>
    rw[hq] at h
    cases q with
    | cells cs =>
     simp only at h
     split at h
     ·cases h; rfl
     ·cases h
    | arr=>cases h
    | gen=>cases h
  subst e
  rw[<- hi]; exact h
 | vptr id' i j sz' =>
  cases sz with
  | m key=>cases h
  | k kd x=>cases h
  | cp _ _=>cases h
  | c sz =>
  simp only at h ⊢
  have e:id'=id:=by
   cases hq:obs id' with
   | none=>rw[hq] at h; cases h
   | some q =>
    rw[hq] at h
    cases q with
    | cells cs=>cases h
    | arr fz _ _ _ =>
     cases fz with
     | true=>cases h
     | false =>
      simp only at h
      split at h
      ·cases h; rfl
      ·cases h
    | gen=>cases h
  subst e
  rw[<- hi]; exact h
 | map id' =>
  cases sz with
  | c sz=>cases h
  | k kd x=>cases h
  | cp _ _=>cases h
  | m key =>
  simp only at h ⊢
  have e:id'=id:=by
   cases hq:obs id' with
   | none=>rw[hq] at h; cases h
   | some q =>
    rw[hq] at h
    cases q with
    | cells cs=>cases h
    | arr fz _ _ _=>cases h
    | gen g ds =>
     cases g with
     | loop=>cases h
     | mapB=>cases h
     | mapS=>cases h
     | iter=>cases h
     | map ks =>
      simp only at h
      split at h
      ·cases h; rfl
      ·cases h
     | mapC ks cs =>
      cases ds with
      | cons _ _=>cases h
      | nil =>
       simp only at h
       split at h
       ·split at h
        ·cases h; rfl
        ·cases h
       ·cases h
  subst e
  rw[<- hi]; exact h
 | vec id' =>
  cases sz with
  | c sz=>cases h
  | m key=>cases h
  | k kd x=>cases h
  | cp dst sz =>
  simp only at h ⊢
  have e:id'=id:=by
   cases hq:obs id' with
   | none=>rw[hq] at h; cases h
   | some q =>
    rw[hq] at h
    cases q with
    | cells cs=>cases h
    | gen=>cases h
    | arr fz _ _ _ =>
     cases fz with
     | true=>cases h
     | false =>
      simp only at h
      split at h
      ·split at h
       ·cases h; rfl
       ·cases h
      ·cases h
  subst e
  rw[<- hi]; exact h
 | vwin id' i sz' =>
  cases sz with
  | c sz=>cases h
  | m key=>cases h
  | k kd x=>cases h
  | cp dst sz =>
  simp only at h ⊢
  have e:id'=id:=by
   cases hq:obs id' with
   | none=>rw[hq] at h; cases h
   | some q =>
    rw[hq] at h
    cases q with
    | cells cs=>cases h
    | gen=>cases h
    | arr fz _ _ _ =>
     cases fz with
     | true=>cases h
     | false =>
      simp only at h
      split at h
      ·split at h
       ·cases h; rfl
       ·cases h
      ·cases h
  subst e
  rw[<- hi]; exact h
 | _=>cases h
theorem ZbO {P:Program} {dst sz:Nat} {lo hi:Bool} {d:D} {bs:List D} {K:D->Option Ob->Prop} (hev:evl P dst (.slice sz lo hi) (d::bs) obs K) (h: ∀ i∈vids (d::bs),obs i=obs' i):evl P dst (.slice sz lo hi) (d::bs) obs' K:=by
 simp only[evl] at hev ⊢
 rw[<- Z1D (obs:=obs) fun i hi=>h i (QM.2 (.inl hi))]
 cases hs:Z05 obs d with
 | some p=>rw[hs] at hev; exact hev
 | none =>
  rw[hs] at hev
  simp only at hev ⊢
  cases d <;> try exact hev
  rename_i id
  have e:=h id (by simp[vids])
  cases bs with
  | nil=>exact hev
  | cons b r =>
   cases r with
   | cons _ _=>cases b <;> exact hev
   | nil =>
    cases b <;> try exact hev
    simp only at hev ⊢
    rw[<- e]
    exact hev
theorem Z5Q {d:D} (h: ∀ i∈vids [d],obs i=obs' i):Z1Y obs d=Z1Y obs' d:=by
 cases d <;> first | rfl | (rename_i id; simp only[Z1Y]; rw[h id (by simp[vids])])
theorem Z5Z {kd:Option IntKind} {z key:D} {id:Nat} (hev:evl P dst (.mlook kd z) [.map id,key] obs K) (h:obs id=obs' id):evl P dst (.mlook kd z) [.map id,key] obs' K:=by
 simp only[evl] at hev ⊢
 rw[<- h]; exact hev
theorem Z8h {sz id off:Nat} (hev:evl P dst (.load true sz) [.ptr id off] obs K) (h: ∀ i∈rdA obs (.load true sz) [.ptr id off],obs i=obs' i):evl P dst (.load true sz) [.ptr id off] obs' K:=by
 have h1:obs id=obs' id:=h id (by simp[rdA])
 simp only[evl] at hev ⊢
 rw[<- h1]
 cases hq:obs id with
 | none=>rw[hq] at hev; exact hev
 | some o =>
  rw[hq] at hev
  cases o with
  | cells cs =>
   simp only[if_true] at hev ⊢
   rw[<- Z36 (obs:=obs) fun i hi=>h i (by simp only[rdA,hq]; exact List.mem_cons_of_mem _ hi)]
   exact hev
  | arr=>exact hev
  | gen=>exact hev
theorem Zaq {op:AOp} {xs:List D} (hev:evl P dst op xs obs K) (h: ∀ i∈rdA obs op xs,obs i=obs' i):evl P dst op xs obs' K:=by
 by_cases hl: ∃ sz id off,op= .load true sz/\xs=[.ptr id off]
 ·obtain⟨sz,id,off,rfl,rfl⟩:=hl
  exact Z8h hev h
 by_cases hlm: ∃ kd z id key,op= .mlook kd z/\xs=[.map id,key]
 ·obtain⟨kd,z,id,key,rfl,rfl⟩:=hlm
  exact Z5Z hev (h id (by simp[rdA]))
 by_cases hsl: ∃ sz lo hi d bs,op= .slice sz lo hi/\xs=d::bs
 ·obtain⟨sz,lo,hi,d,bs,rfl,rfl⟩:=hsl
  exact ZbO hev h
 unfold evl at hev
 split at hev
 all_goals try exact absurd ⟨_,_,_,_,_,rfl,rfl⟩ hsl
 all_goals try exact absurd ⟨_,_,_,_,rfl,rfl⟩ hlm
 all_goals try (simp only[evl]; exact hev)
 all_goals try
  (
   rename_i ag sz id off
   cases ag
   ·simp only[evl]
    rw[<- h id (by simp[rdA,pids])]
    exact hev
   ·exact absurd ⟨sz,id,off,rfl,rfl⟩ hl)
 all_goals simp only[rdA] at h
 all_goals try simp only[evl]
 all_goals first
  | (rw[<- Z2j (obs:=obs) h]; exact hev)
  | (rw[<- h _ (by simp[vids])]; exact hev)
  | (rw[<- Z5Q (obs:=obs) h]; exact hev)
  | (rw[<- Z1D (obs:=obs) fun i hi=>h i (QM.2 (.inl hi))]; exact hev)
  | (rw[<- Z36 (obs:=obs) h]; exact hev)
  | (rw[Z8n h]; exact hev)
  | exact hev
theorem Z9A {op:AOp} {xs:List D} (h: ∀ i∈rdA obs op xs,obs i=obs' i):rdA obs' op xs=rdA obs op xs:=by
 by_cases hl: ∃ sz id off,op= .load true sz/\xs=[.ptr id off]
 ·obtain⟨sz,id,off,rfl,rfl⟩:=hl
  have h1:obs id=obs' id:=h id (by simp[rdA])
  simp only[rdA,h1]
 ·unfold rdA
  split
  ·exact absurd ⟨_,_,_,rfl,rfl⟩ hl
  all_goals first
   | rfl
   | (simp only[rdA] at h; exact Z6c h)
end congr
section has
variable {P:Program} {b:Nat} {s s':St} {e:Eff}
theorem Qu {x:X} (h: ∀ t∈Z0N [x],lk s.tm t=lk s'.tm t):s.get x=s'.get x:=by
 cases x with
 | t t=>simp only[St.get]; rw[h t (by simp[Z0N])]
 | c d=>rfl
theorem ZW {x:X} {r:List X} {t:Nat}:t∈Z0N (x::r) ↔ t∈Z0N [x]\/t∈Z0N r:=by
 cases x <;> simp[Z0N]
theorem Z3J: ∀ {xs:List X},(∀ t∈Z0N xs,lk s.tm t=lk s'.tm t)->xs.map s.get=xs.map s'.get
 | [],_=>rfl
 | x::r,h=>by
  rw[List.map_cons,List.map_cons,Qu fun t ht=>h t (ZW.2 (.inl ht)),Z3J fun t ht=>h t (ZW.2 (.inr ht))]
theorem Zag {g:Option (Nat × Bool)} {p q:Prop} (h: ∀ t∈Z5C g,lk s.tm t=lk s'.tm t) (hg:gud g s p q):gud g s' p q:=by
 cases g with
 | none=>exact hg
 | some gw =>
  obtain⟨t,w⟩:=gw
  simp only[gud] at hg ⊢
  rw[<- h t (by simp[Z5C])]
  exact hg
theorem Qq {g:Option (Nat × Bool)} {p q p' q':Prop} (hp:p->p') (hq:q->q') (hg:gud g s p q):gud g s p' q':=by
 cases g with
 | none=>exact hp hg
 | some gw =>
  obtain⟨t,w⟩:=gw
  simp only[gud] at hg ⊢
  split at hg
  ·split at hg
   ·rename_i hb; rw[if_pos hb]; exact hp hg
   ·rename_i hb; rw[if_neg hb]; exact hq hg
  ·exact hq hg
  ·exact hg
theorem Z5e {c:D} {obs obs':Nat->Option Ob} {d:D} (h: ∀ i∈vids [d],obs i=obs' i):dva c obs d=dva c obs' d:=by
 cases d <;> first | rfl | (rename_i id; simp only[dva]; rw[h id (by simp[vids])])
theorem Z1v {ob ob':Obs} {g:Nat->Option Nat}: ∀ {r:List Nat} {k:Nat},(∀ i∈r,lk ob i=lk ob' i)->Qc ob g k r=Qc ob' g k r
 | [],_,_=>rfl
 | i::r,k,h=>by
  simp only[Qc]
  rw[h i (by simp),Z1v fun j hj=>h j (List.mem_cons_of_mem _ hj)]
theorem Z6G {xs:List X} {y:X} (hy:y∈xs) {f:X->D} {i:Nat} (hi:i∈vids [f y]):i∈vids (xs.map f):=by
 induction xs with
 | nil=>cases hy
 | cons z r ih =>
  rw[List.map_cons]
  rcases List.mem_cons.1 hy with rfl | hy
  ·exact QM.2 (.inl hi)
  ·exact QM.2 (.inr (ih hy))
theorem Z4K {xs:List X} {y:X} (hy:y∈xs) {t:Nat} (ht:t∈Z0N [y]):t∈Z0N xs:=by
 induction xs with
 | nil=>cases hy
 | cons z r ih =>
  rcases List.mem_cons.1 hy with rfl | hy
  ·exact ZW.2 (.inl ht)
  ·exact ZW.2 (.inr (ih hy))
theorem HasB.congr {o:SOp} (hh:HasB P b o s e) (ht: ∀ t∈o.tmps,lk s.tm t=lk s'.tm t) (ho: ∀ i∈e.rd,lk s.ob i=lk s'.ob i):HasB P b o s' e:=by
 cases o with
 | a dst g op xs =>
  obtain⟨h1,h2,h3⟩:=hh
  have hx:=Z3J (s:=s) (s':=s') (xs:=xs) fun t h=>ht t (by simp[SOp.tmps,h])
  rw[h1] at ho
  refine⟨?_,h2, ?_⟩
  ·rw[h1,<- hx]; exact (Z9A ho).symm
  ·rw[<- hx]; exact Zaq h3 ho
 | st g sz x y =>
  have hx:=Qu (s:=s) (s':=s') (x:=x) fun t h=>ht t (by simp only[SOp.tmps,List.mem_append]; exact .inl (.inl (ZW.2 (.inl h))))
  have hy:=Qu (s:=s) (s':=s') (x:=y) fun t h=>ht t (by simp only[SOp.tmps,List.mem_append]; exact .inl (.inl (ZW.2 (.inr h))))
  have hz:sz.at s'=sz.at s:=by
   cases sz with
   | c _=>rfl
   | m _=>rfl
   | k kd q =>
    have hq:=Qu (s:=s) (s':=s') (x:=q) fun t h=>ht t (by simp only[SOp.tmps,List.mem_append]; exact .inr h)
    simp only[SK.at,hq]
   | cp dst n =>
    have hq:=ht dst (by simp only[SOp.tmps,List.mem_append]; exact .inr (by simp[SK.tmps]))
    simp only[SK.at,hq]
  simp only[HasB] at hh ⊢
  rw[<- hx,<- hy,hz]
  split at hh
  ·rename_i a1 b1 id ob hst
   have hrd:id∈e.rd:=by rw[hh.2]; simp
   rw[Z95 hst (ho id hrd)]
   exact hh
  ·exact hh.elim
 | app dst g fz sz et x y =>
  have hx:=Qu (s:=s) (s':=s') (x:=x) fun t h=>ht t (by simp only[SOp.tmps,List.mem_append]; exact .inl (ZW.2 (.inl h)))
  have hy:=Qu (s:=s) (s':=s') (x:=y) fun t h=>ht t (by simp only[SOp.tmps,List.mem_append]; exact .inl (ZW.2 (.inr h)))
  simp only[HasB] at hh ⊢
  rw[<- hx,<- hy]
  split at hh
  ·rename_i ys _ hso
   obtain⟨h1,h2⟩:=hh
   have hrd: ∀ i∈vids [s.get y],i∈e.rd:=fun i hi=>by
    split at h2
    ·rw[h2.2]; exact hi
    ·split at h2
     ·rw[h2.2.2.2]; exact List.mem_cons_of_mem _ hi
     ·exact h2.elim
    ·exact h2.elim
   rw[<- Z5J (obs:=lk s.ob) fun i hi=>ho i (hrd i hi),hso]
   refine⟨h1, ?_⟩
   split at h2
   ·exact h2
   ·rename_i id hxd
    split at h2
    ·rename_i fz' sz' e' es hl
     have hid:id∈e.rd:=by rw[h2.2.2.2]; simp
     rw[<- ho id hid,hl]
     exact h2
    ·exact h2.elim
   ·exact h2.elim
  ·exact hh.elim
 | cd dst g x xs =>
  obtain⟨nm,r,ob',base,h1,h2,h3,h4,hpn,h5⟩:=hh
  have hx:=Qu (s:=s) (s':=s') (x:=x) fun t h=>ht t (by simp only[SOp.tmps,List.mem_append]; exact .inl (ZW.2 (.inl h)))
  have hxs: ∀ x∈xs,s.get x=s'.get x:=fun y hy=>Qu fun t h=>ht t (by
   simp only[SOp.tmps,List.mem_append]
   exact .inl (ZW.2 (.inr (Z4K hy h))))
  have hrd:e.rd=nm++vids (xs.map s.get):=by rw[h5]
  have hmap:xs.map s.get=xs.map s'.get:=List.map_congr_left hxs
  have hdva:(xs.map fun y=>dva (s.get x) (lk s.ob) (s.get y))=xs.map fun y=>dva (s.get x) (lk s'.ob) (s'.get y):=by
   refine List.map_congr_left fun y hy=> ?_
   rw[<- hxs y hy]
   refine Z5e fun i hi=>ho i ?_
   rw[hrd]
   exact List.mem_append_right _ (Z6G hy hi)
  refine⟨nm,r,ob',base,h1,fun i hi=> ?_,h3, ?_, ?_⟩
  ·rw[<- ho i (by rw[hrd]; exact List.mem_append_left _ hi)]; exact h2 i hi
  ·rw[<- hx,<- hdva,<- Z1v (ob:=s.ob) fun i hi=>ho i (by rw[hrd]; exact List.mem_append_left _ hi)]
   exact h4
  ·rw[<- hmap]; exact⟨hpn,h5⟩
end has
end Go.Sx
