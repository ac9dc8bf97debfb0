/- Own work: a layer over the kit: plain data,a walk over it,its soundness. -/
import Derived.Test.YtecgehidegnmnaaGreatDoorSx3
set_option linter.all false
namespace Go.Sx
open Go.RowKit
variable [Globs] [Codes]
section
variable {P:Program} {F:Fence} {n:Nat}
theorem func_inv {φ:Mem} {h:Nat->Value} {v:Value} {f:Fn} {a c:List D} (r:RV φ h v (.func f a c)): ∃ va vc:Array Value,v=.func f va vc/\va.size=a.length/\vc.size=c.length ∧
  (∀ j d,a[j]? = some d->RV φ h (va.getD j Go.undef) d)/\ ∀ j d,c[j]? = some d->RV φ h (vc.getD j Go.undef) d:=by
 cases r with
 |pure r=>cases r
 |func _ vf vc _ _ hf hc h1 h2=>exact⟨vf,vc,rfl,hf,hc,h1,h2⟩
theorem Q6 {f:FuncId} {va vc vs:Array Value} {w:World} (hp:QE P f=true):(Z4r (.func (.func f) va vc) vs).run P w=.ok (.enter f (va++vs++vc)) w:=by
 obtain⟨fn,hf,a,c⟩:=Z1e hp;simp only[Z4r,Deferred.ofValue,invoke,Sem.run_bind,Sem.run_pure,Result.andThen_ok,callFunc,run_program,hf,c,a,Bool.false_eq_true,if_false]
theorem Z4Q [CodesOf P] (hF:Fence.Open F) {cx:Cx} (hgl:GlobC cx.φ0 cx.w0 cx.Z) (hro:InRound F cx) {ds:List Deferred} {ps:Array Tmp} {hi:Hints} {g:Operand} {ca C:Code} {g':X} {a b:SC} (hg:Qa g=some g') (ha:ZK P cx.N hi ca=some a) (E:ZK P cx.N hi C=some b)
  {Q:Exit->St->Prop} {s:St} {φ:Mem} {h:Nat->Value} {tmps:Array Value} {w:World} (hm:Mod cx s φ h tmps w) (hs:sw P cx.bs (.rangeF cx.N g' ps a b) Q s) :
  (Code.rangeFunc g ps ca C).wpIn F n P (PostM cx ds Q) ⟨tmps,ds⟩ w:=by
 obtain⟨nm,R,hnd,hin,⟨f,fa,fc,hgf,hpf⟩,Y,hK⟩:=hs;generalize O:s.nx cx.bs=m at *
 have h3:cx.bs<=m:=by rw[<- O];exact Nat.le_max_left _ _
 have U:s.top<=m:=by rw[<- O];exact Nat.le_max_right _ _
 have h4:Env.top s.tm<=m:=Nat.le_trans (Nat.le_max_left _ _) U;have h6:Obs.top s.ob<=m:=Nat.le_trans (Nat.le_max_right _ _) U;refine wpIn_rangeFunc λfn hfn=>?_
 -- the I is laid
 have lay: ∃ (l:Nat) (q:List Nat) (J:World) (r0:Loop),(q.Nodup/\ ∀ b∈q,cx.kp b=none/\cx.w0.heap.size<=b)/\(Instr.enterLoop fn tmps ps ca C F.round).run P w=.ok (l,q.map mkd) J/\Mod (cx.more q) s φ h tmps J ∧
   Mod (cx.more q) ⟨s.tm,(m,recd P .ready none cx.N ps a b s.tm)::s.ob⟩ φ (updH h m (.pointer (some ⟨l,0,none⟩))) tmps J:=by
  have hct: ∀ t d,lk s.tm t=some d->D.men m d=false:=λt d y=>D.top_men m d (Env.top_get h4 y);have hco: ∀ t o,lk s.ob t=some o->Ob.men m o=false:=λt o M=>(Obs.top_men h6 M).2;have u: ∀ {cx2:Cx} {W:World} {r0:Loop},cx2.bs=cx.bs->Mod cx2 s φ h tmps W->r0.state=.ready->r0.pending=none->r0.params=ps->r0.assign=ca->r0.body=C->r0.tmps=tmps →
    Mod cx2 ⟨s.tm,(m,recd P .ready none cx.N ps a b s.tm)::s.ob⟩ φ (updH h m (.pointer (some ⟨W.heap.size,0,none⟩))) tmps (W.alloc (.loop r0)):=λ{cx2 W r0} hbs hm2 q1 q2 q3 q4 q5 V=>by
   refine hm2.newOb (by rw[hbs];exact h3) hct hco rfl ((Below.refl _ W).alloc (Nat.le_refl _) _) ?_;refine⟨W.heap.size,(s.tm.map (·.1)).map λt=>tmps.getD t Go.undef,.loop r0,rfl,Nat.le_refl _,World.alloc_heap_new W _,⟨⟨_,rfl⟩,r0,rfl,q1,q2,q3,?_,?_,?_,by rw[V]⟩,by simp,λj d y=>?_,λoff=>?_⟩
   ·rw[q4];exact (CodesOf.ci (P:=P) _ _ _).2 ⟨hi,ha⟩
   ·rw[q5];exact (CodesOf.ci (P:=P) _ _ _).2 ⟨hi,E⟩
   ·rw[V];exact hm.size
   ·simp only[List.getElem?_map] at y;cases x:s.tm[j]? with
    |none=>rw[x] at y;cases y
    |some p =>
     rw[x] at y;simp only[Option.map_some,Option.some.injEq] at y;subst y;simp only[List.map_map,List.getD,List.getElem?_map,x,Option.map_some,Option.getD_some,Function.comp];have:RV φ h (tmps.getD p.1 Go.undef) ((lk s.tm p.1).getD .undef):=by
      cases hl:lk s.tm p.1 with
      |none=>exact .undef _
      |some d=>exact hm.tm p.1 d hl
     exact this.under (get?_lk_top h4 p.1) λi hi=>Zi _ _ (by omega)
   ·cases x:φ W.heap.size off with
    |none=>rfl
    |some v=>exact absurd (Sub.lt hm2.mem x) (by omega)
  cases hr:F.round with
  |none =>
   have H:=hm.mark;refine⟨w.heap.size+1,[w.heap.size],_,{state:=.ready,pending:=none,fn,tmps,params:=ps,assign:=ca,body:=C,defers:=w.heap.size},⟨by simp,?_⟩,run_enterLoop_outer _ _ _ _ _,?_,?_⟩
   ·intro b E;simp only[List.mem_singleton] at E;subst E;refine⟨?_,hm.grow⟩;cases x:cx.kp w.heap.size with
    |none=>rfl
    |some o=>exact absurd (Array.getElem?_eq_some_iff.1 (hm.kept _ o x).1).1 (by omega)
   ·have E:=(Below.refl _ (w.alloc (.deferred (some [])))).alloc (Nat.le_refl _) (.loop {state:=.ready,pending:=none,fn,tmps,params:=ps,assign:=ca,body:=C,defers:=w.heap.size});exact H.grown E (λ_ _ _ h=>h) (λb o v hv=>by rw[E.cell (p:=⟨b,o,none⟩) (Sub.lt H.mem hv)];exact H.mem b o v hv) (λ_ _ _ h h'=>by rw[h] at h';cases h')
   ·have:=u (cx2:=cx.more [w.heap.size]) (r0:={state:=.ready,pending:=none,fn,tmps,params:=ps,assign:=ca,body:=C,defers:=w.heap.size}) rfl H rfl rfl rfl rfl rfl rfl;rw[World.size_alloc] at this;exact this
  |some l0 =>
   obtain⟨r,hkr⟩:=hro l0 hr;have hl0:=(hm.kept l0 _ hkr).1;refine⟨w.heap.size,[],w.alloc (.loop {state:=.ready,pending:=none,fn,tmps,params:=ps,assign:=ca,body:=C,defers:=r.defers}),{state:=.ready,pending:=none,fn,tmps,params:=ps,assign:=ca,body:=C,defers:=r.defers},⟨by simp,by simp⟩,?_,?_,?_⟩
   ·unfold Instr.enterLoop;simp only[Sem.run_bind,run_getLoop hl0,Result.andThen,Sem.run_pure,run_newObj_alloc,List.map_nil]
   ·rw[Cx.more_nil];have E:=(Below.refl _ w).alloc (Nat.le_refl _) (.loop {state:=.ready,pending:=none,fn,tmps,params:=ps,assign:=ca,body:=C,defers:=r.defers});exact hm.grown E (λ_ _ _ h=>h) (λb o v hv=>by rw[E.cell (p:=⟨b,o,none⟩) (Sub.lt hm.mem hv)];exact hm.mem b o v hv) (λ_ _ _ h h'=>by rw[h] at h';cases h')
   ·rw[Cx.more_nil];exact u rfl hm rfl rfl rfl rfl rfl rfl
 obtain⟨l,q,J,r0,L,G,hm0,hm1⟩:=lay
 -- the value that is called
 have z:GlobC (cx.more q).φ0 (cx.more q).w0 (cx.more q).Z:=hgl;have hgv:=hm0.get z (ds:=ds) hg;rw[hgf] at hgv;obtain⟨va,vc,hve,_,_,_,_⟩:=func_inv hgv;have hlink:=Q6 (P:=P) (va:=va) (vc:=vc) (vs:=#[.func (.yield l) #[] #[]]) (w:=J) hpf;have htop1:St.top ⟨s.tm,(m,recd P .ready none cx.N ps a b s.tm)::s.ob⟩<=m+1:=by
  simp only[St.top,Obs.top]
  have:=ZbA (P:=P) (st:=.ready) (pend:=none) (N:=cx.N) (ps:=ps) (a:=a) (b:=b) h4;omega
 have hgv2:RV φ (updH h m (.pointer (some ⟨l,0,none⟩))) (Act.eval ⟨tmps,ds⟩ g) (s.get g'):=by
  have:=hm0.get z (ds:=ds) hg;refine this.under (n:=m) ?_ (λi hi=>Zi _ _ (by omega));cases g' with
  |t t=>exact get?_lk_top h4 t
  |c d =>
   cases g with
   |tmp t=>cases hg
   |const v=>cases hg;exact Z7Y v m
   |func f=>cases hg;simp[St.get,D.top,D.topL]
   |global g =>
    cases hg;simp only[St.get,glx];cases x:Globs.G g<;>exact Nat.zero_le _
 have hyl:RV φ (updH h m (.pointer (some ⟨l,0,none⟩))) (.func (.yield l) #[] #[]) (.yld m):=.yld m l (Zw _ _ _);have B:=Y F hF (n-1) φ _ J (Act.eval ⟨tmps,ds⟩ g) #[.func (.yield l) #[] #[]] (hm1.loc (hm1.glob z) hnd) (Z1d hgv2) ⟨Z1d hyl,trivial⟩;rw[hve] at B;rw[hlink] at B;refine⟨l,q.map mkd,J,{target:=.fn (.func f) vc,args:=va++ #[.func (.yield l) #[] #[]]},J,f,va++ #[.func (.yield l) #[] #[]]++vc,J,G,?_,?_,?_,?_,?_⟩
 ·have e:(rangeCall g l).args.map (Act.eval ⟨tmps,ds⟩)=#[.func (.yield l) #[] #[]]:=by simp[rangeCall,Act.eval]
  simp only[resolve];rw[e];simp only[hve,Deferred.ofValue];exact Sem.run_pure _ _ _
 ·intro f' _;exact hF.fn f'
 ·obtain⟨fn',hf',hb',hn'⟩:=Z1e hpf;simp only[invoke,Sem.run_bind,Sem.run_pure,Result.andThen_ok,callFunc,run_program,hf',hn',hb',Bool.false_eq_true,if_false]
 ·intro y;rw[hF.depth] at y;cases y
 ·refine CallsIn.mono B ?_;rintro e w3 ⟨r,ob',φ',h',hend,hR,haft⟩;obtain⟨V,_⟩:=hm1.back (base:=m+1) (by show cx.bs<=m+1;omega) htop1 hnd hin haft;rcases hend with⟨v,rfl,hrv⟩|⟨v,rfl,rfl⟩
  case inr =>
   rcases hK _ ob' hR with⟨v',he,x⟩|⟨hf,_⟩
   ·cases he;refine⟨q,L,rfl,_,φ',_,x,V.weaken (λ_ _ h=>h) λi o hi=>?_⟩;simp only[ZD] at hi;split at hi
    ·cases hi
    ·exact hi
   ·cases hf
  obtain⟨st,pend,ps',asg,body,N',keys,dd,hl',hst,hQ⟩: ∃ st pend ps' asg body N' keys dd,lk (St.back ⟨s.tm,(m,recd P .ready none cx.N ps a b s.tm)::s.ob⟩ (m+1) nm ob').ob m=some (.gen (.loop st pend ps' asg body N' keys) dd)/\st≠ .busy/\_:=by
   rcases hK r ob' hR with⟨v',he,_⟩|⟨_,h⟩
   ·subst he;exact hrv.notPan.elim
   ·exact h
  have hob:=V.ob m _ hl';have hhr:hbak (updH h m (.pointer (some ⟨l,0,none⟩))) h' (m+1) m=.pointer (some ⟨l,0,none⟩):=by
   simp only[hbak];rw[if_neg (by omega)];exact Zw _ _ _
  rw[hhr] at hob;obtain⟨b0,vals,o,hb0,hown,A,hgis,_,_,hnone⟩:=hob;cases hb0;obtain⟨_,r3,rfl,hst3,hpe3,_⟩:=hgis;have hrunl:=run_endLoop (P:=P) A (by rw[hst3];exact hst);refine⟨pend,_,by rw[<- hpe3];exact hrunl,?_⟩;generalize hS:St.back ⟨s.tm,(m,recd P .ready none cx.N ps a b s.tm)::s.ob⟩ (m+1) nm ob'=S at *
  have hStm:S.tm=s.tm:=by rw[<- hS];rfl
  -- the I is let go
  have T: ∀ i o,lk (Za m S.ob) i=some o->lk S.ob i=some o/\i≠m:=λi o M=>by
   rw[ZD] at M;split at M
   ·cases M
   ·rename_i hne;exact⟨M,hne⟩
  have hmw:Mod (cx.more q) ⟨s.tm,Za m S.ob⟩ φ' (hbak (updH h m (.pointer (some ⟨l,0,none⟩))) h' (m+1)) tmps w3:=V.weaken (λ_ _ h=>by rw[hStm];exact h) λi o hi=>(T i o hi).1;have hlt:=(Array.getElem?_eq_some_iff.1 A).1;have hmf:Mod (cx.more q) ⟨s.tm,Za m S.ob⟩ φ' (hbak (updH h m (.pointer (some ⟨l,0,none⟩))) h' (m+1)) tmps (w3.putObj l (.loop {r3 with state:=.exhausted})):=by
   refine hmw.world hown (λi hi he=>?_) (ZiL V (by rw[hl'];rfl) (by rw[hhr];rfl)) rfl rfl rfl World.putObj_size (λk hk=>World.putObj_heap_other hk) (λb o v hv=>?_)
   ·obtain⟨o,M⟩:=Option.isSome_iff_exists.1 hi;obtain⟨h1,h2⟩:=T i o M;exact h2 (V.sep i m l (by rw[h1];rfl) (by rw[hl'];rfl) he (by rw[hhr];rfl))
   ·have hbl:b≠l:=λe=>by rw[e,hnone] at hv;cases hv
    rw[World.cell?_of_block (w:=w3) (a:=⟨b,o,none⟩) (World.putObj_heap_other hbl)];exact hmw.mem b o v hv
  have fin: ∀ e,Q e ⟨s.tm,Za m S.ob⟩->PostM cx ds Q e ⟨tmps,q.map mkd++ds⟩ (w3.putObj l (.loop {r3 with state:=.exhausted})):=λe x=>⟨q,L,rfl,_,φ',(hbak (updH h m (.pointer (some ⟨l,0,none⟩))) h' (m+1)),x,hmf⟩;split at hQ
  ·exact fin .normal hQ
  ·exact wpIn_ret (fin .ret hQ)
  ·exact wpIn_exit (fin (.exit _) hQ)
  ·exact hQ.elim
end
end Go.Sx
namespace Go.Sx
open Go.RowKit
variable [Globs] [Codes]
/- STEPS THAT MAY PANIC. -/
section
variable {P:Program} {F:Fence} {n:Nat} {cx:Cx} {s:St} {φ:Mem} {h:Nat->Value} {tmps:Array Value} {w:World}
theorem Z5l (hm:Mod cx s φ h tmps w) {ds:List Deferred} (dst:Option Nat) (a: ∀ d,dst=some d->d<cx.N):Mod cx (s.put dst .nov) φ h (Act.put ⟨tmps,ds⟩ dst Go.undef).tmps w:=by
 cases dst with
 |none=>exact hm
 |some t =>
  have:=hm.astep (dst:=t) (id:=cx.bs) (d:=.nov) (nb:=none) (v:=Go.undef) (hv:=Go.undef) ⟨Below.refl _ _,λ_ _ _ h=>h,hm.mem,(λ_ _ _ h h'=>by rw[h] at h';cases h'),.tuple #[] [] rfl (by simp),(λ_ h=>by cases h)⟩ (a t rfl) (Nat.le_refl _)
   (λh=>absurd rfl h) (λh=>absurd rfl h) (λh=>absurd rfl h)
  exact this.weaken (λi d hi=>by simp only[St.put,ZN] at hi;exact hi) (λi o hi=>hi)
theorem Z2U (hm:Mod cx s φ h tmps w) {ops:Array Oper} {o:Oper} {g:Option (Nat × Bool)} (d:Z15 ops o=some g) {body skip:Prop} (a:gud g s body skip) :
  (Region.wanted o (yielded ops tmps)=true/\body)\/(Region.wanted o (yielded ops tmps)=false/\skip):=by
 unfold Z15 at d;cases c:o.guard with
 |none =>
  rw[c] at d;cases d;exact .inl ⟨by simp[Region.wanted,c],a⟩
 |some x =>
  obtain⟨j,r⟩:=x;rw[c] at d;simp only[] at d;cases k:(ops[j]?).bind (·.dst) with
  |none=>rw[k] at d;cases d
  |some t =>
   rw[k] at d;cases d;simp only[gud] at a;split at a
   ·rename_i b m;have hv:tmps.getD t Go.undef=.bool b:=(hm.tm t _ m).bool_inv;have u:tmps[t]? = some (.bool b):=by
     cases i:tmps[t]? with
     |none=>simp[Array.getD_eq_getD_getElem?,i,Go.undef] at hv
     |some v=>simp[Array.getD_eq_getD_getElem?,i] at hv;rw[hv]
    have l:yielded ops tmps j=some b:=by simp[yielded,k,u]
    split at a
    ·rename_i f;exact .inl ⟨by simp[Region.wanted,c,l,f],a⟩
    ·rename_i f;exact .inr ⟨by simp[Region.wanted,c,l,f],a⟩
   ·rename_i m;obtain⟨vs,hv,q,_⟩:=(hm.tm t _ m).tuple_inv;have p:tmps.getD t Go.undef=.tuple #[]:=by
     rw[hv];congr 1;exact Array.eq_empty_of_size_eq_zero (by simpa using q)
    have l:yielded ops tmps j=none:=by
     cases i:tmps[t]? with
     |none=>simp[yielded,k,i]
     |some v =>
      have:v=.tuple #[]:=by simpa [Array.getD_eq_getD_getElem?,i] using p
      simp[yielded,k,i,this]
    exact .inr ⟨by simp[Region.wanted,c,l],a⟩
   ·exact a.elim
theorem Zaj {fz:Bool} {o:Oper} {xs:List Operand} (hc:Z3p P fz o=some (.pnk,xs)): ∃ x,o.op=.panic x/\xs=[x]:=by
 have key: ∀ {a:Option (AOp × List Operand)},a=some (.pnk,xs)-> ∀ {b:AOp} {ys:List Operand},a=some (b,ys)->b=.pnk:=λh1 _ _ h2=>by rw[h1] at h2;cases h2;rfl
 unfold Z3p at hc;split at hc;all_goals try (cases hc;done)
 all_goals try (rename_i x c;cases hc;exact⟨x,c,rfl⟩)
 all_goals first
  |(unfold Z1P at hc;repeat' split at hc)|(repeat' split at hc)
 all_goals try (cases hc;done)
 all_goals try (unfold Z1P at *;repeat' split at *)
 all_goals try (simp_all;done)
theorem Z1s (z:Fence.Open F) {fz:Bool} {ops:Array Oper} {o:Oper} {so:SOp} {Kn:St->Prop} {Kp:Value->St->Prop} {Q:Exit->Act->World->Prop} {ds:List Deferred} {bt:Nat->Bool} {bs:Nat} (G:cx.bs<=bs) (q:GlobC cx.φ0 cx.w0 cx.Z) (hc:Z01 P bt fz ops o=some so)
  (V: ∀ d,o.dst=some d->d<cx.N) (hm:Mod cx s φ h tmps w) (p:stpX P bs so s Kn Kp) (hp: ∀ v s' φ' h' w',Kp v s'->Mod cx s' φ' h' tmps w'->Q (pnc v) ⟨tmps,ds⟩ w') :
  if Region.wanted o (yielded ops tmps) then o.wpIn F n P ⟨tmps,ds⟩ w (Z0J cx ds Kn) Q
  else (∀ f,o.about P w (Act.eval ⟨tmps,ds⟩)=some f->F.fn f)/\Z0J cx ds Kn (Act.put ⟨tmps,ds⟩ o.dst Go.undef) w:=by
 cases so with
 |st g sz x y=>exact Qy z G q hc V hm p
 |app dst g fz sz e x y=>exact Qy z G q hc V hm p
 |a dst g op xs =>
  by_cases hq:dst=none/\op=.pnk/\ ∃ x,xs=[x]
  ·obtain⟨rfl,rfl,x,rfl⟩:=hq;unfold Z01 at hc;cases I:Z15 ops o with
   |none=>rw[I] at hc;cases hc
   |some C =>
   rw[I] at hc;have other:(match Z3p P fz o with
     |some (op,xs)=>(xs.mapM Qa).map λxs=>SOp.a o.dst C op xs
     |none=>none)=some (.a none g .pnk [x])->if Region.wanted o (yielded ops tmps) then o.wpIn F n P ⟨tmps,ds⟩ w (Z0J cx ds Kn) Q
     else (∀ f,o.about P w (Act.eval ⟨tmps,ds⟩)=some f->F.fn f)/\Z0J cx ds Kn (Act.put ⟨tmps,ds⟩ o.dst Go.undef) w:=by
    intro hc;split at hc
    ·rename_i op ys T;cases k:ys.mapM Qa with
     |none=>rw[k] at hc;cases hc
     |some zs =>
      rw[k] at hc;simp only[Option.map_some,Option.some.injEq,SOp.a.injEq] at hc;obtain⟨A,rfl,rfl,rfl⟩:=hc;obtain⟨x0,Y,rfl⟩:=Zaj T;have hx:Qa x0=some x:=by
       simp only[List.mapM_cons,List.mapM_nil,Option.bind_eq_bind,Option.bind_eq_some_iff,Option.pure_def,Option.some.injEq] at k;obtain⟨y,h1,_,rfl,h2⟩:=k;cases h2;exact h1
      rcases Z2U hm I p with⟨O,t,u,hsx,J⟩|⟨O,J⟩
      ·rw[if_pos O];have hv:=hm.get q (ds:=ds) hx;rw[hsx] at hv;have hv:=hv.raw_inv;refine⟨λf _=>z.fn f,?_⟩;rw[Oper.semAt_eq _ _ _ (by rw[Y];intro c h;cases h)];have B:(execOp (Act.eval ⟨tmps,ds⟩) o).run P w=.halt (.panic (.iface t u)) w:=by
        simp only[execOp,Y,hv];rfl
       rw[B,Oper.uponIn_panic];exact hp _ _ _ _ _ J hm
      ·rw[if_neg (by rw[O];simp)];exact⟨λf _=>z.fn f,by cases o.dst<;>rfl,s,φ,h,J,by rw[A];exact hm⟩
    ·cases hc
   simp only[] at hc;split at hc
   ·split at hc<;>cases hc
   ·split at hc<;>cases hc
   ·split at hc<;>cases hc
   ·split at hc
    ·split at hc
     ·split at hc
      ·split at hc<;>cases hc
      ·cases hc
     ·cases hc
    ·cases hc
   ·split at hc
    ·split at hc
     ·split at hc<;>cases hc
     ·cases hc
    ·cases hc
   ·split at hc
    ·split at hc<;>cases hc
    ·exact other hc
   ·exact other hc
  ·refine Qy z G q hc V hm ?_;cases dst with
   |some d=>exact p
   |none=>cases op<;>first|exact p|(cases xs with
     |nil=>exact p
     |cons x r=>cases r with
      |nil=>exact absurd ⟨rfl,rfl,x,rfl⟩ hq
      |cons _ _=>exact p)
 |cd dst g x xs =>
  unfold Z01 at hc;cases I:Z15 ops o with
  |none=>rw[I] at hc;cases hc
  |some C =>
  rw[I] at hc;have other:(match Z3p P fz o with
     |some (op,xs)=>(xs.mapM Qa).map λxs=>SOp.a o.dst C op xs
     |none=>none)=some (.cd dst g x xs)->False:=by
   intro hc;split at hc
   ·rename_i op ys T;cases k:ys.mapM Qa with
    |none=>rw[k] at hc;cases hc
    |some zs=>rw[k] at hc;cases hc
   ·cases hc
  simp only[] at hc;split at hc
  ·split at hc<;>cases hc
  ·split at hc<;>cases hc
  ·split at hc<;>cases hc
  ·split at hc
   ·split at hc
    ·split at hc
     ·split at hc<;>cases hc
     ·cases hc
    ·cases hc
   ·cases hc
  ·split at hc
   ·split at hc
    ·split at hc<;>cases hc
    ·cases hc
   ·cases hc
  ·rename_i c _ _ Y;split at hc
   ·rename_i S cxs m;split at hc
    ·rename_i x' xs' hx k;cases hc;have H: ∃ C,c.callee=.value C/\S=C/\cxs=c.args.toList:=by
      obtain⟨cal,args,ts⟩:=c;unfold Zai at m;cases cal with
      |value C =>
       cases C<;>simp only[] at m<;>first|(split at m;all_goals first|(cases m;exact⟨_,rfl,rfl,rfl⟩)|cases m)|(cases m;exact⟨_,rfl,rfl,rfl⟩)
      |builtin b=>cases m
      |invoke _ _=>cases m
     obtain⟨C,hg',rfl,rfl⟩:=H;rcases Z2U hm I p with⟨O,hb⟩|⟨O,J⟩
     ·rw[if_pos O];obtain⟨nm,R,base,X,hin,hb1,hb2,U,hK⟩:=hb;have B:(execOp (Act.eval ⟨tmps,ds⟩) o).run P w=(Z4r (Act.eval ⟨tmps,ds⟩ S) (c.args.map (Act.eval ⟨tmps,ds⟩))).run P w:=by
       simp only[execOp,Y,resolve,hg',Z4r]
      have E: ∀ cd:D,RVL φ h (c.args.map (Act.eval ⟨tmps,ds⟩)).toList (xs.map λy=>dva cd (lk s.ob) (s.get y)):=by
       intro cd
       have:=hm.gets q (ds:=ds) k;rw[Array.toList_map];exact Z64 (own:=cx.own) (λi ob hi=>hm.ob i ob hi) this
      have j:=U F z n φ (hcal h nm) w _ _ (hm.loc (hm.glob q) X) (Z1d (hm.get q (ds:=ds) hx)) (Z63 (E _));rw[<- B] at j;refine⟨λf _=>z.fn f,?_⟩;rw[Oper.semAt_eq _ _ _ (by rw[Y];intro c h;cases h)];have fin: ∀ e w',Post (Q4 s.ob (idx · nm) 0 nm) φ (hcal h nm) w R e w'->(∃ v,e=.returned v/\Z0J cx ds Kn (Act.put ⟨tmps,ds⟩ o.dst v) w')\/ ∃ v,e=.panicked [{v,recovered:=false}]/\Q (pnc v) ⟨tmps,ds⟩ w':=by
       rintro e w' ⟨r,ob',φ',h',W,hR,ha⟩;obtain⟨q6,q5⟩:=hm.back (base:=base) (by omega) hb2 X hin ha;rcases W with⟨v,rfl,hrv⟩|⟨v,rfl,rfl⟩
       ·refine .inl ⟨v,rfl,by cases o.dst<;>rfl,_,φ',hbak h h' base,((hK r ob' hR).resolve_right ?_).2,?_⟩
        ·rintro⟨v',rfl,_⟩;exact hrv.notPan
        ·cases A:o.dst with
         |none=>exact q6
         |some t=>exact (q6.setTmp (V t A) (q5 v r hrv)).weaken (λi d hi=>by simp only[St.put,ZN] at hi;exact hi) (λi o hi=>hi)
       ·refine .inr ⟨v,rfl,?_⟩;rcases hK _ ob' hR with⟨hf,_⟩|⟨v',he,J⟩
        ·cases hf
        ·cases he;exact hp _ _ _ _ _ J q6
      unfold DynOut at j;split at j
      ·rename_i f a w1 N;rw[N,Oper.uponIn_enter];refine⟨(λh=>by rw[z.depth] at h;cases h),CallsIn.mono (z.lessCall j) ?_⟩;intro e w' M;rcases fin e w' M with⟨v,rfl,L⟩|⟨v,rfl,L⟩
       ·exact L
       ·exact L
      ·rename_i l f a asg body w1 N;rw[N,Oper.uponIn_round];refine⟨(λh=>by rw[z.depth] at h;cases h),RoundIn.mono (z.lessRound j) ?_⟩;intro e w' M;rcases fin e w' M with⟨v,rfl,L⟩|⟨v,rfl,L⟩
       ·exact L
       ·exact L
      ·exact j.elim
     ·rw[if_neg (by rw[O];simp)];exact⟨λf _=>z.fn f,by cases o.dst<;>rfl,_,φ,h,J,Z5l hm (ds:=ds) o.dst V⟩
    ·cases hc
   ·exact (other hc).elim
  ·exact (other hc).elim
end
end Go.Sx
namespace Go.Sx
open Go.RowKit
open Go.ChangeMaps (setBlock)
variable [Globs] [Codes]
/- PIECES WITH A RULE OF THEIR OWN. -/
section
variable {P:Program} {F:Fence} {n:Nat}
theorem Z1r {cx:Cx} {ds:List Deferred} {bs:Nat} (k:cx.bs<=bs) (p:GlobC cx.φ0 cx.w0 cx.Z) (u:Fence.Open F) {bt fz:Nat->Bool} {ops:Array Oper} {K:St->Prop} {Y:Exit->Act->World->Prop} {rest:List Oper}
  (i: ∀ (s:St) (φ:Mem) (h:Nat->Value) (tmps:Array Value) (w:World),Mod cx s φ h tmps w->K s->wpListIn F n P ops Y rest ⟨tmps,ds⟩ w) (l:List Oper) :
  ∀ (c:List SOp),l.mapM (λo=>Z01 P bt (fz (o.dst.getD 0)) ops o)=some c->(∀ o∈l,∀ d,o.dst=some d->d<cx.N) →
  ∀ (s:St) (φ:Mem) (h:Nat->Value) (tmps:Array Value) (w:World),Mod cx s φ h tmps w->stps P bs c s K->wpListIn F n P ops Y (l++rest) ⟨tmps,ds⟩ w:=by
 induction l with
 |nil =>
  intro c hc _ s φ h tmps w hm j;simp at hc;subst hc;exact i s φ h tmps w hm j
 |cons o l y =>
  intro c hc t s φ h tmps w hm j;simp only[List.mapM_cons,Option.bind_eq_bind,Option.bind_eq_some_iff,Option.pure_def,Option.some.injEq] at hc;obtain⟨so,h1,g,h2,rfl⟩:=hc;have hs:=Qy (ds:=ds) (n:=n) (Q:=Y) u k p h1 (t o (by simp)) hm j;have f: ∀ a w',Z0J cx ds (λs'=>stps P bs g s' K) a w'->wpListIn F n P ops Y (l++rest) a w':=by
   rintro⟨tm,df⟩ w' ⟨m,s',φ',h',v,q⟩;cases m;exact y g h2 (λo x=>t o (List.mem_cons_of_mem _ x)) s' φ' h' tm w' q v
  rw[List.cons_append];unfold wpListIn;split at hs
  ·rename_i r;rw[if_pos r];exact Oper.wpIn_mono f hs
  ·rename_i r;rw[if_neg r];exact⟨hs.1,f _ _ hs.2⟩
theorem Z7p {cx:Cx} {ds:List Deferred} {bs:Nat} (f:cx.bs<=bs) (g:GlobC cx.φ0 cx.w0 cx.Z) (i:Fence.Open F) {bt fz:Nat->Bool} {ops:Array Oper} {K:St->Prop} {Q:Exit->St->Prop} {rest:List Oper}
  (c: ∀ (s:St) (φ:Mem) (h:Nat->Value) (tmps:Array Value) (w:World),Mod cx s φ h tmps w->K s->wpListIn F n P ops (PostM cx ds Q) rest ⟨tmps,ds⟩ w) (l:List Oper) :
  ∀ (a:List SOp),l.mapM (λo=>Z01 P bt (fz (o.dst.getD 0)) ops o)=some a->(∀ o∈l,∀ d,o.dst=some d->d<cx.N) →
  ∀ (s:St) (φ:Mem) (h:Nat->Value) (tmps:Array Value) (w:World),Mod cx s φ h tmps w->stps P bs a s K->wpListIn F n P ops (PostM cx ds Q) (l++rest) ⟨tmps,ds⟩ w :=
 Z1r f g i c l
theorem Z4D {cx:Cx} {ds:List Deferred} {bs:Nat} (k:cx.bs<=bs) (p:GlobC cx.φ0 cx.w0 cx.Z) (u:Fence.Open F) {bt fz:Nat->Bool} {ops:Array Oper} {Q:Exit->St->Prop} (l:List Oper) :
  ∀ (c:List SOp),l.mapM (λo=>Z01 P bt (fz (o.dst.getD 0)) ops o)=some c->(∀ o∈l,∀ d,o.dst=some d->d<cx.N) →
  ∀ (s:St) (φ:Mem) (h:Nat->Value) (tmps:Array Value) (w:World),Mod cx s φ h tmps w->Z1U P bs c s (Q .normal) (λv s'=>Q (pnc v) s')->wpListIn F n P ops (PostM cx ds Q) l ⟨tmps,ds⟩ w:=by
 induction l with
 |nil =>
  intro c hc _ s φ h tmps w hm j;simp at hc;subst hc;exact PostM.of j hm
 |cons o l y =>
  intro c hc t s φ h tmps w hm j;simp only[List.mapM_cons,Option.bind_eq_bind,Option.bind_eq_some_iff,Option.pure_def,Option.some.injEq] at hc;obtain⟨so,h1,g,h2,rfl⟩:=hc;have hs:=Z1s (ds:=ds) (n:=n) (Q:=PostM cx ds Q) u k p h1 (t o (by simp)) hm j (λv s' φ' h' w' q i=>PostM.of q i);have f: ∀ a w',Z0J cx ds (λs'=>Z1U P bs g s' (Q .normal) (λv s'=>Q (pnc v) s')) a w'->wpListIn F n P ops (PostM cx ds Q) l a w':=by
   rintro⟨tm,df⟩ w' ⟨m,s',φ',h',q,i⟩;cases m;exact y g h2 (λo x=>t o (List.mem_cons_of_mem _ x)) s' φ' h' tm w' i q
  unfold wpListIn;split at hs
  ·rename_i r;rw[if_pos r];exact Oper.wpIn_mono f hs
  ·rename_i r;rw[if_neg r];exact⟨hs.1,f _ _ hs.2⟩
theorem Z04 {o:Oper} (h:o.guard=none) (y:Nat->Option Bool):Region.wanted o y=true:=by
 unfold Region.wanted;rw[h]
theorem Z3T (i:Fence.Open F) {o:Oper} {a:Act} {w w':World} {v:Value} {next:Act->World->Prop} {Q:Exit->Act->World->Prop} (g: ∀ c,o.op≠ .defer c)
  (j:(execOp a.eval o).run P w=.ok (.value v) w') (d:next (a.put o.dst v) w'):o.wpIn F n P a w next Q:=by
 refine⟨λf _=>i.fn f,?_⟩;rw[Oper.semAt_eq _ _ _ g,j];exact d
theorem Z94 (hF:Fence.Open F) {cx:Cx} (R:GlobC cx.φ0 cx.w0 cx.Z) {ds:List Deferred} {ops:Array Oper} {dst b:Nat} {t kt et:TypeId} {x:Operand} {x':X} {o:Oper} {Q:Exit->St->Prop} (M:cx.bs<=b) (ho:o.op=.range t x) (C:o.dst=some dst) (hg:o.guard=none)
  (ht:P.underlying t=some (.map kt et)) (hx:Qa x=some x') (hd:dst<cx.N) (s:St) (φ:Mem) (h:Nat->Value) (tmps:Array Value) (w:World) (hm:Mod cx s φ h tmps w)
  (hs: ∃ a ks ds,s.get x'= .map a/\lk s.ob a=some (.gen (.mapC ks ds) [])/\s.clean (b+dst)=true/\a≠b+dst/\ ∀ (l:List Nat) (cl:Nat),l.length=ks.length->l.Nodup->(∀ x∈l,x<cl) →
   Q .normal (St.put2 ⟨s.tm,(a,.gen (.mapB ks ds l cl) [])::Za a s.ob⟩ dst (b+dst) (.ptr (b+dst) 0) (.gen (.iter l [] cl) [.map a]))):wpListIn F n P ops (PostM cx ds Q) [o] ⟨tmps,ds⟩ w:=by
 have hv:=hm.get R (ds:=ds) hx;obtain⟨a,ks,u,H,hl,m,hne,hk⟩:=hs
 ·rw[H] at hv
  ·skip
   obtain⟨hvm,U⟩:=hv.map_inv;obtain⟨p,vals,oo,q,I,f,⟨rfl,B,⟨b',g⟩,es,clock,rfl,h1,h2,h3,h4⟩,E,hrv,k⟩:=hm.ob a _ hl;rw[g] at q;cases q;have V:(es.toList.map MapEntry.born).length=ks.length:=by
    have:=congrArg List.length h1;simpa using this
   have G: ∀ y∈es.toList.map MapEntry.born,y<clock:=by
    intro y hy;obtain⟨e,N,rfl⟩:=List.mem_map.1 hy;exact h4 e (by simpa using N)
   have T:=hk _ clock V h3 G
   -- the map,its A marks told
   have W:=hm.turn (w':=w) (λ_ _=>rfl) rfl rfl rfl (Nat.le_refl _) hl (by rw[g];rfl) k (o':=.gen (.mapB ks u (es.toList.map MapEntry.born) clock) [])
    ⟨p,[],_,by rw[g];rfl,I,f,⟨rfl,B,⟨p,g⟩,es,rfl,h1,h2,rfl,h3,G⟩,E,hrv,k⟩
   have hbm:p<w.heap.size:=(Array.getElem?_eq_some_iff.1 f).1;have J:(execOp (Act.eval ⟨tmps,ds⟩) o).run P w=.ok (.value (.pointer (some ⟨w.heap.size,0,none⟩))) (w.alloc (.mapIter (some p) clock #[] clock)):=by
    simp[execOp,ho,hvm,g,Instr.range,run_underlying ht,MapKept.run_getObj_map f,Result.andThen]
   have r:St.clean (b+dst) ⟨s.tm,(a,.gen (.mapB ks u (es.toList.map MapEntry.born) clock) [])::s.ob⟩=true:=by
    have O:Ob.men (b+dst) (.gen (.mapB ks u (es.toList.map MapEntry.born) clock) [])=false:=by
     have:=St.clean_ob (i:=b+dst) m hl;exact this
    simp only[St.clean,Bool.and_eq_true] at m ⊢;refine⟨m.1,?_⟩;simp only[List.all_cons,Bool.and_eq_true];exact⟨by rw[O];rfl,m.2⟩
   have z:AStep φ h w (b+dst) (.ptr (b+dst) 0) (some (.gen (.iter (es.toList.map MapEntry.born) [] clock) [.map a])) (.pointer (some ⟨w.heap.size,0,none⟩)) φ (.pointer (some ⟨w.heap.size,0,none⟩)) (w.alloc (.mapIter (some p) clock #[] clock)):=by
    refine⟨(Below.refl _ w).alloc (Nat.le_refl _) _,λ_ _ _ h=>h,Sub.alloc hm.mem _,(λ_ _ _ h h'=>by rw[h] at h';cases h'),.ptr _ _ w.heap.size (Zw _ _ _),λob N=>?_⟩;cases N;refine⟨w.heap.size,[.map (some p)],_,rfl,Nat.le_refl _,heap_alloc_new w _,⟨⟨_,rfl⟩,p,rfl,rfl,by simp⟩,rfl,λj d S=>?_,λoff=>?_⟩
    ·cases j with
     |zero =>
      simp at S;subst S;have e:updH h (b+dst) (.pointer (some ⟨w.heap.size,0,none⟩)) a=.map (some p):=by rw[Zi _ _ hne,g]
      have:=RV.map (φ:=φ) (h:=updH h (b+dst) (.pointer (some ⟨w.heap.size,0,none⟩))) a (by rw[e];rfl);rw[e] at this;simpa using this
     |succ j=>simp at S
    ·cases hb:φ w.heap.size off with
     |none=>rfl
     |some v=>exact absurd (Sub.lt hm.mem hb) (by omega)
   have Y:=W.astep z hd (Nat.le_trans M (Nat.le_add_right _ _)) (λ_ _ _ h=>St.clean_tm r h) (λ_ _ _ h=>St.clean_ob r h) (λ_=>rfl);unfold wpListIn;rw[if_pos (Z04 hg _)];refine Z3T hF (by rw[ho];intro c h;cases h) J ?_;rw[C];refine PostM.of T (Y.weaken (λi d hi=>?_) (λi o hi=>?_))
   ·simp only[St.put2,ZN] at hi;exact hi
   ·simp only[St.put2,ZN] at hi;simp only[St.add,lk] at hi ⊢;split at hi
    ·rename_i e;rw[if_pos e];exact hi
    ·rename_i e;rw[if_neg e];split at hi
     ·rename_i L;rw[if_pos L];exact hi
     ·rename_i L;rw[if_neg L];rw[ZD,if_neg L] at hi;exact hi
theorem Z9p {l:List Nat} (c:l.Nodup) {i j:Nat} (hi:i<l.length) (a:j<l.length) (h:l.getD i 0=l.getD j 0):i=j:=by
 rw[List.getD_eq_getElem?_getD,List.getD_eq_getElem?_getD,List.getElem?_eq_getElem hi,List.getElem?_eq_getElem a] at h;exact (List.getElem_inj c).1 h
theorem Z9l (hF:Fence.Open F) {cx:Cx} (hgl:GlobC cx.φ0 cx.w0 cx.Z) {ds:List Deferred} {ops:Array Oper} {b:Nat} {it:Operand} {it':X} {t1 t2:Nat} {o1 o2:Oper} {Q:Exit->St->Prop} (h1:o1.op=.next it false) (h2:o2.op=.extract (.tmp t1) 0) (hd1:o1.dst=some t1) (hd2:o2.dst=some t2)
  (hg1:o1.guard=none) (hg2:o2.guard=none) (hne:t1≠t2) (U:t1<cx.N) (hN2:t2<cx.N) (hx:Qa it=some it') (s:St) (φ:Mem) (h:Nat->Value) (tmps:Array Value) (w:World) (hm:Mod cx s φ h tmps w)
  (hs:spS P b (.nxt it' t1 t2) Q s):wpListIn F n P ops (PostM cx ds Q) [o1,o2] ⟨tmps,ds⟩ w:=by
 simp only[spS] at hs;have hv:=hm.get hgl (ds:=ds) hx;obtain⟨id,q,ix,a,O,ks,gds,hid,hl,hlm,hidm,hK1,hK2⟩:=hs
 ·rw[hid] at hv
  ·skip
   ·skip
    obtain⟨R,hh,hvx⟩:=hv.ptr_inv;obtain⟨bi,vals,oo,G,hown,u,⟨⟨b',hb'⟩,I,rfl,rfl,Y⟩,hlen,hrv,z⟩:=hm.ob id _ hl;rw[hh] at G;cases G;obtain⟨hmv,hml⟩:=(hrv 0 _ rfl).map_inv;have y:h O=.map (some I):=by simpa using hmv.symm
    obtain⟨bm2,vals2,oo2,r,N,m,⟨rfl,V,hmp,es,rfl,e1,e2,e3,hnd,hlt⟩,J,hrv2,p⟩:=hm.ob O _ hlm;rw[y] at r;cases r;have hll:es.size=q.length:=by rw[<- e3];simp
    have g: ∀ (i:Nat) (hi:i<es.size),q.getD i 0=es[i].born:=λi hi=>by
     rw[<- e3];have:es.toList[i]? = some es[i]:=by simp[hi]
     simp[List.getD,this]
    -- the two H,once the first is known
    have fin: ∀ (C:World) (S:Bool) (T:Array Value) (s1:St),(execOp (Act.eval ⟨tmps,ds⟩) o1).run P w=.ok (.value (.tuple T)) C->T[0]? = some (.bool S)->Mod cx s1 φ h tmps C →
      Q .normal ((s1.put (some t1) .undef).put (some t2) (.bool S))->wpListIn F n P ops (PostM cx ds Q) [o1,o2] ⟨tmps,ds⟩ w:=by
     intro C S T s1 f htv L hq;unfold wpListIn;rw[if_pos (Z04 hg1 _)];refine Z3T hF (by rw[h1];intro c h;cases h) f ?_;rw[hd1];unfold wpListIn;rw[if_pos (Z04 hg2 _)];have hsz:=hm.size;refine Z3T (v:=.bool S) (w':=C) hF (by rw[h2];intro c h;cases h) ?_ ?_
     ·have:(Act.put ⟨tmps,ds⟩ (some t1) (.tuple T)).eval (.tmp t1)=.tuple T:=by
       simp[Act.put,Act.eval,Array.getD_eq_getD_getElem?,Array.getElem?_setIfInBounds,hsz,U]
      simp only[execOp,h2,this,Instr.extract,htv];rfl
     ·rw[hd2];have hm2:=(L.setTmp (d:=.undef) (v:=.tuple T) U (.undef _)).setTmp (d:=.bool S) (v:=.bool S) hN2 (Qu _);refine PostM.of hq (hm2.weaken (λi d hi=>?_) (λi o hi=>?_))
      ·by_cases ha:i=t2
       ·simp only[St.put,lk,if_pos ha] at hi ⊢;exact hi
       ·simp only[St.put,lk,if_neg ha,ZD] at hi ⊢;by_cases hb:i=t1
        ·simpa only[if_pos hb] using hi
        ·simp only[if_neg hb,ZD] at hi ⊢;exact hi
      ·exact hi
    have A: ∀ i,i<es.size->(((ix.map λi=>q.getD i 0).toArray.contains (q.getD i 0)=true) ↔ i∈ix):=λi hi=>by
     simp only[Array.contains_eq_any_beq,List.any_toArray,List.any_map,List.any_eq_true];constructor
     ·rintro⟨j,B,he⟩;have t:q.getD i 0=q.getD j 0:=by simpa using he
      have:=Z9p hnd (by omega) (Y j B) t;subst this;exact B
     ·intro B;exact⟨i,B,by simp⟩
    rcases run_next_at (P:=P) w o1.type R I a a _ es a u m (λx hx=>hlt _ (by rw[<- e3];exact List.mem_map.2 ⟨x,hx,rfl⟩)) (Nat.le_refl _) with⟨h0,f⟩|⟨e,he,C,hw1,f⟩
    ·refine fin w false #[.bool false] _ (by simp[execOp,h1,hvx,f]) rfl ?_ (hK1 λi hi=>?_)
     ·have hlv:es.toList.map MapEntry.born=q:=e3;refine (hm.turn (w':=w) (λ_ _=>rfl) rfl rfl rfl (Nat.le_refl _) hlm (by rw[y];rfl) p (o':=.gen (.mapC ks gds) [])
       ⟨I,[],_,by rw[y];rfl,N,m,⟨rfl,V,hmp,es,a,rfl,e1,e2,by rw[hlv];exact hnd,λx hx=>hlt _ (by rw[<- hlv];exact List.mem_map.2 ⟨x,by simpa using hx,rfl⟩)⟩,J,hrv2,p⟩).weaken (λ_ _ h=>h) (λi o hi=>?_)
      simp only[ZN] at hi;exact hi
     ·have W:i<es.size:=by omega
      rw[<- A i W];have hz:leftOf es (ix.map λi=>q.getD i 0).toArray=#[]:=Array.eq_empty_of_size_eq_zero h0;have M:es[i] ∉ leftOf es (ix.map λi=>q.getD i 0).toArray:=by rw[hz];simp
      unfold leftOf at M;rw[Array.mem_filter] at M;rw[g i W];cases hq:((ix.map λi=>q.getD i 0).toArray.contains es[i].born) with
      |true=>rfl
      |false=>exact absurd ⟨by simp,by rw[hq];rfl⟩ M
    ·have t:e∈leftOf es (ix.map λi=>q.getD i 0).toArray:=by simpa using he
     unfold leftOf at t;rw[Array.mem_filter] at t;obtain⟨hee,hns⟩:=t;obtain⟨i,hi,rfl⟩:=Array.getElem_of_mem hee;have E:i ∉ ix:=λhin=>by
      have:=(A i hi).2 hin;rw[g i hi] at this;rw[this] at hns;cases hns
     have L:Mod cx s φ h tmps C:=by
      rcases hw1 with rfl|rfl
      ·exact hm
      ·exact hm.drew
     have hh1:C.heap=w.heap:=by
      rcases hw1 with rfl|rfl<;>rfl
     have l:C.heap[R]? = some (.mapIter (some I) a (ix.map λi=>q.getD i 0).toArray a):=by rw[hh1];exact u
     refine fin (setBlock C R (.mapIter (some I) a ((ix.map λi=>q.getD i 0).toArray.push es[i].born) a)) true #[.bool true,es[i].key,es[i].val] _ (by simp[execOp,h1,hvx,f]) rfl ?_ (hK2 i (by omega) E);refine (L.turn (w':=setBlock C R _) (λk hk=>(MapKept.heap_set l).2 k hk) rfl rfl rfl (by simp[setBlock]) hl (by rw[hh];rfl) z (o':=.gen (.iter q (ix++[i]) a) [.map O]) ?_).weaken (λ_ _ h=>h) (λi o hi=>?_)
     ·refine⟨R,[.map (some I)],_,by rw[hh];rfl,hown,(MapKept.heap_set l).1,⟨⟨R,hh⟩,I,rfl,?_,?_⟩,hlen,hrv,z⟩
      ·rw[List.map_append,<- g i hi];simp
      ·intro j B;rcases List.mem_append.1 B with B|B
       ·exact Y j B
       ·simp at B;omega
     ·simp only[ZN] at hi;exact hi
theorem Z7q (m:Fence.Open F) {cx:Cx} (g:GlobC cx.φ0 cx.w0 cx.Z) {ds:List Deferred} {hi:Hints} {ops:Array Oper} {k:Sp} {id:Nat} (hc:Z0M P cx.N hi ops=some k) {Q:Exit->St->Prop} {s:St} {φ:Mem} {h:Nat->Value} {tmps:Array Value} {w:World}
  (hm:Mod cx s φ h tmps w) (hs:spS P cx.bs k Q s):(Code.region id ops false).wpIn F n P (PostM cx ds Q) ⟨tmps,ds⟩ w:=by
 refine wpIn_region_list ?_;unfold Z0M at hc;split at hc
 ·rename_i dst t x ty pos aft c;split at hc
  ·rename_i kt L M f G hx d;split at hc
   ·rename_i i;cases hc;obtain⟨init,j⟩: ∃ init,ops.toList=init++[⟨some dst,.range t x,ty,pos,aft,none⟩]:=by
     rcases List.eq_nil_or_concat ops.toList with h0|⟨l,a,h0⟩
     ·rw[h0] at c;cases c
     ·rw[List.concat_eq_append] at h0;rw[h0] at c;simp at c;exact⟨l,by rw[h0,c]⟩
    have q:=Q5 i;rw[j] at d q ⊢;simp only[List.dropLast_concat] at d;refine Z7p (Nat.le_max_left _ _) g m (λs' φ' h' tm w' u C=>?_) init f d (λo E=>q o (by simp[E])) s φ h tmps w hm hs;exact Z94 m g (Nat.le_max_left _ _) rfl rfl rfl G hx (q ⟨some dst,.range t x,ty,pos,aft,none⟩ (by simp) dst rfl) s' φ' h' tm w' u C
   ·cases hc
  ·cases hc
 ·split at hc
  ·rename_i t1 it I z v t2 t3 J A y d;split at hc
   ·rename_i H r;split at hc
    ·rename_i p;cases hc;obtain⟨rfl,h1,h2,B⟩:=p;rw[d];exact Z9l m g rfl rfl rfl rfl rfl rfl h1 h2 B r s φ h tmps w hm hs
    ·cases hc
   ·cases hc
  ·split at hc
   ·split at hc
    ·split at hc
     ·cases hc;exact hs.elim
     ·cases hc
    ·cases hc
   ·split at hc
    ·split at hc
     ·split at hc
      ·cases hc;exact hs.elim
      ·cases hc
     ·cases hc
    ·split at hc
     ·split at hc
      ·rename_i f d;split at hc
       ·rename_i i;cases hc;exact Z4D (Nat.le_max_left _ _) g m ops.toList f d (Q5 i) s φ h tmps w hm hs
       ·cases hc
      ·cases hc
     ·cases hc
end
end Go.Sx
namespace Go.Sx
open Go.RowKit
variable [Globs] [Codes]
section
variable {P:Program} {F:Fence} {n:Nat}
theorem Z3K {N:Nat} {hi:Hints} {ops:Array Oper} {a:List SOp} (hc:Z0M P N hi ops=some (.pan a)) :
  ∃ bt fz:Nat->Bool,ops.toList.mapM (λo=>Z01 P bt (fz (o.dst.getD 0)) ops o)=some a/\QW N ops=true:=by
 unfold Z0M at hc;split at hc
 ·split at hc
  ·split at hc<;>cases hc
  ·cases hc
 ·split at hc
  ·split at hc
   ·split at hc<;>cases hc
   ·cases hc
  ·split at hc
   ·split at hc
    ·split at hc<;>cases hc
    ·cases hc
   ·split at hc
    ·split at hc
     ·split at hc<;>cases hc
     ·cases hc
    ·split at hc
     ·split at hc
      ·rename_i f c;split at hc
       ·rename_i d;cases hc;exact⟨_,_,c,d⟩
       ·cases hc
      ·cases hc
     ·cases hc
theorem Z1b [CodesOf P] (Z5:DrawSound P) (X:Fence.Open F) {hi:Hints} {N bs:Nat} (c:Code): ∀ (sc:SC),ZK P N hi c=some sc-> ∀ (cx:Cx) (ds:List Deferred),cx.N=N->cx.bs=bs->GlobC cx.φ0 cx.w0 cx.Z->InRound F cx →
  ∀ (Q:Exit->St->Prop) (s:St) (φ:Mem) (h:Nat->Value) (tmps:Array Value) (w:World),
  Mod cx s φ h tmps w->sw P bs sc Q s->c.wpIn F n P (PostM cx ds Q) ⟨tmps,ds⟩ w:=by
 induction c with
 |skip =>
  intro sc hc cx ds r f d l Q s φ h tmps w hm hs;cases hc;exact wpIn_skip (PostM.of hs hm)
 |ret =>
  intro sc hc cx ds r f d l Q s φ h tmps w hm hs;cases hc;exact wpIn_ret (PostM.of hs hm)
 |exit id =>
  intro sc hc cx ds r f d l Q s φ h tmps w hm hs;cases hc;exact wpIn_exit (PostM.of hs hm)
 |region id ops G =>
  intro sc hc cx ds r f d l Q s φ h tmps w hm hs;subst r;subst f;simp only[ZK] at hc;split at hc
  ·rename_i k L;cases G with
   |true =>
    simp only[if_true] at hc;obtain⟨O,rfl,h1,h2,⟨p,h3,rfl⟩|rfl⟩:=Z34 hc
    case inr =>
     obtain⟨bt,fz,z,R⟩:=Z3K L;obtain⟨pan,qs,s',q1,q2,q3,q4⟩:=hs;exact Z5.o X (Nat.le_max_left _ _) d z R h2 h1 s φ h tmps w (Nat.le_max_right _ _) hm pan qs s' q1 q2 q3 q4
    obtain⟨bt,fz,z,R⟩:=Z3K L;obtain⟨es,s',q1,q2,q3⟩:=hs;exact Z5.p X (Nat.le_max_left _ _) d z R h2 h1 h3 s φ h tmps w (Nat.le_max_right _ _) hm es s' _ q1 q2 (Nat.le_max_left _ _) q3
   |false =>
    simp only[Bool.false_eq_true,if_false] at hc;cases hc;exact Z7q X d L hm hs
  split at hc
  ·rename_i O hl;split at hc
   ·rename_i hd;cases G with
    |true =>
     simp only[if_true] at hc;split at hc
     ·rename_i W;cases hc;simp only[Bool.and_eq_true,decide_eq_true_eq] at W;obtain⟨es,s',q1,q2,q3⟩:=hs;exact Z5.s X (Nat.le_max_left _ _) d hl hd W.2 W.1 s φ h tmps w (Nat.le_max_right _ _) hm es s' q1 q2 q3
     ·cases hc
    |false =>
     simp only[Bool.false_eq_true,if_false] at hc;cases hc;exact wpIn_region_list (Z5u (Nat.le_max_left _ _) d X ops.toList O hl (Q5 hd) s φ h tmps w hm hs)
   ·cases hc
  ·cases hc
 |seq a b A B =>
  intro sc hc cx ds r f d l Q s φ h tmps w hm hs;simp only[ZK] at hc;split at hc
  ·rename_i sa E ha Y;split at hc
   ·cases hc;refine wpIn_seq (wpIn_mono (A sa ha cx ds r f d l _ s φ h tmps w hm hs) ?_);rintro e ⟨tm,df⟩ w' ⟨u,q,m,s',φ',h',y,o⟩;simp only at m;subst m;cases e<;>first|exact⟨u,q,rfl,s',φ',h',y,o⟩|exact wpIn_mono (B E Y (cx.more u) (u.map mkd++ds) r f d (l.more u) Q s' φ' h' tm w' o y) (λ_ _ _ h=>h.after q)
   ·rename_i ts _;cases hc;refine wpIn_seq (wpIn_mono (A sa ha cx ds r f d l _ s φ h tmps w hm hs) ?_);rintro e ⟨tm,df⟩ w' ⟨u,q,m,s',φ',h',y,o⟩;simp only at m;subst m;cases e<;>try exact⟨u,q,rfl,s',φ',h',y,o⟩
    obtain⟨φ2,L,V⟩:=o.canonM ts;have hq':sw P bs E Q (s'.canon bs ts):=y;subst f;exact wpIn_mono (B E Y (cx.more u) (u.map mkd++ds) r rfl d (l.more u) Q _ φ2 L tm w' V hq') (λ_ _ _ h=>h.after q)
  ·cases hc
 |cond x a b A B =>
  intro sc hc cx ds r f d l Q s φ h tmps w hm hs;simp only[ZK] at hc;split at hc
  ·rename_i x' sa E hx ha Y;cases hc;simp only[sw] at hs;have hv:=hm.get d (ds:=ds) hx;split at hs
   ·rename_i t hxt;rw[hxt] at hv;refine wpIn_cond hv.bool_inv ?_;cases t
    ·exact B E Y cx ds r f d l Q s φ h tmps w hm (by simpa using hs)
    ·exact A sa ha cx ds r f d l Q s φ h tmps w hm (by simpa using hs)
   ·exact hs.elim
  ·cases hc
 |block id c ih =>
  intro sc hc cx ds r f d l Q s φ h tmps w hm hs;simp only[ZK] at hc;cases v:ZK P N hi c with
  |none=>rw[v] at hc;cases hc
  |some E =>
   rw[v] at hc;cases hc;refine wpIn_block (wpIn_mono (ih E v cx ds r f d l _ s φ h tmps w hm hs) ?_);rintro e ⟨tm,df⟩ w' ⟨u,q,m,s',φ',h',y,o⟩;cases e<;>try exact⟨u,q,m,s',φ',h',y,o⟩
   rename_i i;simp only[Z0E] at y;simp only[Exit.inBlock];split at y
   ·rename_i hi;rw[if_pos hi];exact⟨u,q,m,s',φ',h',y,o⟩
   ·rename_i hi;rw[if_neg hi];exact⟨u,q,m,s',φ',h',y,o⟩
 |loop c ih =>
  intro sc hc cx ds r f d l Q s φ h tmps w hm hs;simp only[ZK] at hc;cases v:ZK P N hi c with
  |none=>rw[v] at hc;cases hc
  |some E =>
   rw[v] at hc;cases hc;obtain⟨ts,Inv,⟨k0,hk0⟩,C⟩:=hs;subst r;subst f;let I:Nat->Act->World->Prop:=λk a w'=>PostM cx ds (λ_ s'=>Inv k s') .normal a w';have hmin: ∀ a w',(∃ k,I k a w')-> ∃ k,I k a w'/\ ∀ j,I j a w'->k<=j:=λa w' ⟨k,L⟩=>by
    induction k using Nat.strongRecOn with
    |_ k ihk =>
     by_cases U: ∃ j,j<k/\I j a w'
     ·obtain⟨j,hj,hij⟩:=U;exact ihk j hj hij
     ·exact⟨k,L,λj hj=>Nat.le_of_not_lt λhjk=>U ⟨j,hjk,hj⟩⟩
   let μ:Act->World->Nat:=λa w'=>Classical.epsilon λk=>I k a w'/\ ∀ j,I j a w'->k<=j;have hμ: ∀ a w',(∃ k,I k a w')->I (μ a w') a w'/\ ∀ j,I j a w'->μ a w'<=j:=λa w' S=>Classical.epsilon_spec (hmin a w' S);obtain⟨_,L,V⟩:=hm.canonM ts;refine wpIn_loop (λa w'=>∃ k,I k a w') μ ⟨k0,PostM.of (Q:=λ_ s'=>Inv k0 s') hk0 V⟩ ?_;intro a w' S;obtain⟨⟨u,q,m,s',φ',h',J,o⟩,_⟩:=hμ a w' S;generalize hkk:μ a w'=kk at J;obtain⟨tm,df⟩:=a;simp only at m;subst m;refine wpIn_mono (ih E v (cx.more u) (u.map mkd++ds) rfl rfl d (l.more u) _ s' φ' h' tm w' o (C kk s' J)) ?_;intro e a2 w2 hp;obtain⟨ms2,M,H,s2,φ2,h2,y,hm2⟩:=hp.after q;cases e<;>try exact⟨ms2,M,H,s2,φ2,h2,y,hm2⟩
   obtain⟨k',U,T⟩:=y;obtain⟨φ3,hk2,hmk2⟩:=hm2.canonM ts;have hI:I k' a2 w2:=⟨ms2,M,H,s2.canon cx.bs ts,φ3,hk2,T,hmk2⟩;exact⟨⟨k',hI⟩,by have:=(hμ a2 w2 ⟨k',hI⟩).2 k' hI;omega⟩
 |rangeFunc g ps ca cb A B =>
  intro sc hc cx ds r f d l Q s φ h tmps w hm hs;subst r;subst f;simp only[ZK] at hc;split at hc
  ·rename_i g' a b hg ha Y;cases hc;exact Z4Q X d l hg ha Y hm hs
  ·cases hc
 |scope=>intro sc hc;cases hc
 |label=>intro sc hc;cases hc
 |goto=>intro sc hc;cases hc
 |refuse=>intro sc hc;cases hc
end
end Go.Sx
namespace Go.Sx
open Go.RowKit
variable [Globs] [Codes]
inductive SR where
 |t (n:Nat)
 |cell (n:Nat) (agg:Bool) (sz:Nat)
 deriving Inhabited
def resD (s:St):SR->Option D
 |.t n=>lk s.tm n
 |.cell n agg sz=>match lk s.tm n with
  |some (.ptr id off)=>match lk s.ob id with
   |some (.cells cs)=>if agg then (if off+sz<=cs.length then some (.agg ((cs.drop off).take sz)) else none) else cs[off]?
   |_=>none
  |_=>none
def Z0C:List D->D
 |[d]=>d
 |ds=>.tuple ds
def Z25 (P:Program):ResultVar->Option SR
 |.tmp t=>some (.t t)
 |.cell a t=>match aggB P t,szT P t with
  |some ag,some sz=>some (.cell a ag sz)
  |_,_=>none
def Zu:Nat->List D->Env
 |_,[]=>[]
 |i,d::ds=>(i,d)::Zu (i+1) ds
theorem Z6Q: ∀ (ds:List D) (i t:Nat) (d:D),lk (Zu i ds) t=some d->i<=t/\ds[t-i]? = some d
 |[],_,_,_,h=>by simp[Zu,lk] at h
 |x::ds,i,t,d,h=>by
  simp only[Zu,lk] at h;split at h
  ·rename_i a;cases h;subst a;simp
  ·have:=Z6Q ds (i+1) t d h;refine⟨by omega,?_⟩;rw[show t-i=(t-(i+1))+1 by omega];simpa using this.2
theorem Z07: ∀ {ds:List D},D.cloL ds=true-> ∀ d∈ds,D.clo d=true
 |[],_,_,h=>by simp at h
 |x::ds,hc,d,h=>by
  simp only[D.cloL,Bool.and_eq_true] at hc;rcases List.mem_cons.1 h with rfl|h
  ·exact hc.1
  ·exact Z07 hc.2 d h
theorem RV.closed {φ:Mem} {h:Nat->Value} {v:Value} {d:D} (r:RV φ h v d):D.clo d=true-> ∀ h',RV φ h' v d:=by
 induction r with
 |undef v=>exactλ_ h'=>.undef v
 |pure hr=>exactλ_ h'=>.pure hr
 |agg vs cs hs _ g=>exactλhc h'=>.agg vs cs hs λj d a=>g j d a (Z07 (by simpa [D.clo] using hc) d (List.mem_of_getElem? a)) h'
 |tuple vs cs hs _ g=>exactλhc h'=>.tuple vs cs hs λj d a=>g j d a (Z07 (by simpa [D.clo] using hc) d (List.mem_of_getElem? a)) h'
 |ptr=>intro hc;simp[D.clo] at hc
 |fptr b off cs vals hm hr=>exactλ_ h'=>.fptr b off cs vals hm hr
 |vec=>intro hc;simp[D.clo] at hc
 |vptr=>intro hc;simp[D.clo] at hc
 |vwin=>intro hc;simp[D.clo] at hc
 |map=>intro hc;simp[D.clo] at hc
 |yld=>intro hc;simp[D.clo] at hc
 |func f vf vc df dc hf c _ _ i k =>
  intro hc h';simp only[D.clo,Bool.and_eq_true] at hc;exact .func f vf vc df dc hf c (λj d a=>i j d a (Z07 hc.1 d (List.mem_of_getElem? a)) h') (λj d a=>k j d a (Z07 hc.2 d (List.mem_of_getElem? a)) h')
section
variable {P:Program} {cx:Cx} {s:St} {φ:Mem} {h:Nat->Value} {tmps:Array Value} {w:World}
def resF (tmps:Array Value):ResultVar->Sem Value
 |.tmp t=>pure (tmps.getD t Go.undef)
 |.cell a t=>do loadVar t (← asAddr (tmps.getD a Go.undef))
theorem Z7G (fn:Func) (tmps:Array Value):results fn tmps=(do let vs ← fn.results.mapM (resF tmps);pure (if h:vs.size=1 then vs[0] else .tuple vs)):=by
 unfold results;congr 1
theorem ZeO (hm:Mod cx s φ h tmps w) {rv:ResultVar} {y:SR} {d:D} (hc:Z25 P rv=some y) (hr:resD s y=some d) :
  ∃ v,(resF tmps rv).run P w=.ok v w/\RV φ h v d:=by
 cases rv with
 |tmp t =>
  cases hc;simp only[resD] at hr;cases hl:lk s.tm t with
  |none=>rw[hl] at hr;cases hr
  |some x=>rw[hl] at hr;simp at hr;subst hr;exact⟨_,rfl,hm.tm t x hl⟩
 |cell a t =>
  simp only[Z25] at hc;split at hc
  ·rename_i ag sz ha hs;cases hc;simp only[resD] at hr;split at hr
   ·rename_i id off hl;obtain⟨b,z,hv⟩:=(hm.tm a _ hl).ptr_inv;split at hr
    ·rename_i cs u;obtain⟨B,vals,e,o,_,i,m,q,_⟩:=hm.ob id _ u;rw[z] at o;cases o;have c: ∀ j,j<cs.length->w.cell? ⟨b,j,none⟩=some (vals.getD j Go.undef):=λj k=>by
      rw[cell_of_row w b j vals e _ i];simp[Array.getD_eq_getD_getElem?,m,k]
     have g:(asAddr (tmps.getD a Go.undef)).run P w=.ok ⟨b,off,none⟩ w:=by rw[hv];rfl
     cases ag with
     |true =>
      simp only[if_true] at hr;split at hr
      ·rename_i A;cases hr
       have:=Z0W (P:=P) (w:=w) (b:=b) (off:=off) ha hs ((List.range sz).map λj=>vals.getD (off+j) Go.undef) (by simp) (λj v k=>by
        rw[List.getElem?_map] at k;by_cases l:j<sz
        ·simp[l] at k;subst k;have:=c (off+j) (by omega);simpa using this
        ·rw[List.getElem?_eq_none (by simp;omega)] at k;cases k)
       refine⟨.agg ((List.range sz).map λj=>vals.getD (off+j) Go.undef).toArray,by simp only[resF,Sem.run_bind,g,Result.andThen_ok,this],Z4K (n:=sz) (f:=λj=>vals.getD (off+j) Go.undef) (by simp;omega) ?_⟩;intro j d p;rw[List.getElem?_take] at p;split at p
       ·rw[List.getElem?_drop] at p;exact q _ _ p
       ·cases p
      ·cases hr
     |false =>
      simp only[Bool.false_eq_true,if_false] at hr;cases r:cs[off]? with
      |none=>rw[r] at hr;cases hr
      |some x =>
       rw[r] at hr;simp at hr;subst hr;have l:=(List.getElem?_eq_some_iff.1 r).1;exact⟨_,by simp only[resF,Sem.run_bind,g,Result.andThen_ok,Z0V (P:=P) ha (c off l)],q _ _ r⟩
    ·cases hr
   ·cases hr
  ·cases hc
theorem Z6D (hm:Mod cx s φ h tmps w): ∀ {a:List ResultVar} {rs:List SR} {ds:List D},a.mapM (Z25 P)=some rs->rs.mapM (resD s)=some ds →
  ∃ vs,(a.mapM (resF tmps)).run P w=.ok vs w/\RVL φ h vs ds
 |[],rs,ds,hc,hr=>by
  simp at hc;subst hc;simp at hr;subst hr;exact⟨[],rfl,trivial⟩
 |rv::a,rs,ds,hc,hr=>by
  simp only[List.mapM_cons,Option.bind_eq_bind,Option.bind_eq_some_iff,Option.pure_def,Option.some.injEq] at hc;obtain⟨m,h1,l,h2,rfl⟩:=hc;simp only[List.mapM_cons,Option.bind_eq_bind,Option.bind_eq_some_iff,Option.pure_def,Option.some.injEq] at hr;obtain⟨d,j,i,k,rfl⟩:=hr;obtain⟨v,hv,f⟩:=ZeO hm h1 j;obtain⟨vs,g,c⟩:=Z6D hm h2 k;refine⟨v::vs,?_,f,c⟩;rw[List.mapM_cons,Sem.run_bind,hv,Result.andThen_ok,Sem.run_bind,g];rfl
end
structure FnC (P:Program) (f:FuncId) (N:Nat) (sc:SC) (rs:List SR):Prop where
 ex: ∃ fn c hi,P.funcs[f]? = some fn/\fn.body=some c/\fn.ntmps=N/\ZK P N hi c=some sc/\fn.results.toList.mapM (Z25 P)=some rs
section
variable {P:Program} {F:Fence} {n:Nat}
theorem Mod.unmark {cx:Cx} {s:St} {φ:Mem} {h:Nat->Value} {tmps:Array Value} {w:World} {b:Nat} {p:List Nat} (hm:Mod (cx.more (b::p)) s φ h tmps w) (q:b ∉ p) (f:cx.kp b=none) (A:cx.w0.heap.size<=b) :
  w.heap[b]? = some (.deferred (some []))/\Mod (cx.more p) s φ h tmps (w.putObj b (.deferred none)):=by
 have u:(cx.more (b::p)).kp b=some (.deferred (some [])):=by simp[Cx.more,f]
 obtain⟨h1,h2,y⟩:=hm.kept b _ u;have B:=(Array.getElem?_eq_some_iff.1 h1).1;refine⟨h1,?_⟩;have c: ∀ k,k≠b->(w.putObj b (.deferred none)).heap[k]? = w.heap[k]? :=λk f=>World.putObj_heap_other f;refine⟨hm.size,hm.tm,λg o v hv=>?_,hm.ext,hm.new,λi o x=>?_,hm.sep,hm.os,hm.tape,hm.output,by rw[World.putObj_size];exact hm.grow,hm.one,λk j t=>?_,hm.hfix,λk o d=>?_⟩
 ·have z:g≠b:=λe=>by rw[e,h2] at hv;cases hv
  rw[World.cell?_of_block (w:=w) (a:=⟨g,o,none⟩) (c g z)];exact hm.mem g o v hv
 ·exact (hm.ob i o x).keep (λ_ q=>q) (λk f=>c k λe=>y i (by rw[x];rfl) (e ▸ f)) (λ_ _ _ h=>h) (λ_ _ _=>rfl) (λ_ _ _ r=>r)
 ·rw[c k (λe=>by subst e;have h':k<cx.w0.heap.size:=j;omega)];exact hm.frame k j t
 ·have m:k≠b:=λe=>by
   subst e;simp only[Cx.more,f,if_neg q] at d;cases d
  have l:(cx.more (b::p)).kp k=some o:=by
   simp only[Cx.more] at d ⊢;simpa [m] using d
  obtain⟨C,E,G⟩:=hm.kept k o l;exact⟨by rw[c k m];exact C,E,G⟩
theorem QZ {cx:Cx} {fn:Func} {tmps:Array Value} {R:Ending->World->Prop} {s:St} {φ:Mem} {h:Nat->Value} {u:FrameMode} {dd:List Deferred} (m:u≠ .run) (fin: ∀ w',Mod cx s φ h tmps w'->LeavesInM F n P fn tmps R dd u w') :
  ∀ (f:List Nat) (w:World),(f.Nodup/\ ∀ b∈f,cx.kp b=none/\cx.w0.heap.size<=b)->Mod (cx.more f) s φ h tmps w->LeavesInM F n P fn tmps R (f.map mkd++dd) u w:=by
 intro f;induction f with
 |nil =>
  intro w _ hm;rw[Cx.more_nil] at hm;exact fin w hm
 |cons b f o =>
  intro w j hm;obtain⟨a,d⟩:=j;rw[List.nodup_cons] at a;obtain⟨k,l,g⟩:=And.intro a.1 (d b (by simp));obtain⟨h1,i⟩:=hm.unmark k l g;exact⟨m,.inl ⟨b,_,rfl,run_takeDeferred h1,o _ ⟨a.2,λc hc=>d c (List.mem_cons_of_mem _ hc)⟩ i⟩⟩
theorem Z0f {cx:Cx} {fn:Func} {tmps:Array Value} {R:Ending->World->Prop} {s:St} {φ:Mem} {h:Nat->Value} (fin: ∀ w',Mod cx s φ h tmps w'-> ∃ v,(results fn tmps).run P w'= .ok v w'/\R (.returned v) w') (a:List Nat) (w:World) (c:a.Nodup/\ ∀ b∈a,cx.kp b=none/\cx.w0.heap.size<=b) (hm:Mod (cx.more a) s φ h tmps w):LeavesInM F n P fn tmps R (a.map mkd) .returning w:=by
 have:=QZ (F:=F) (n:=n) (P:=P) (fn:=fn) (R:=R) (u:=.returning) (dd:=[]) (by simp) fin a w c hm;simpa using this
theorem Z5C {cx:Cx} {fn:Func} {rs:List SR} (f:fn.results.toList.mapM (Z25 P)=some rs) {s':St} {φ':Mem} {h':Nat->Value} {tm:Array Value} {ds:List D} (i:rs.mapM (resD s')=some ds) {w':World} (k:Mod cx s' φ' h' tm w'): ∃ v,(results fn tm).run P w'= .ok v w'/\RV φ' h' v (Z0C ds):=by
 obtain⟨c,m,a⟩:=Z6D k f i;have g:(results fn tm).run P w'= .ok (if h:c.toArray.size=1 then c.toArray[0] else .tuple c.toArray) w':=by
  rw[Z7G,Sem.run_bind,Array.mapM_eq_mapM_toList,Sem.run_map,m];rfl
 refine⟨_,g,?_⟩
 match c,ds,a with
 |[v],[d],a=>exact a.1
 |[],[],_=>exact .tuple _ _ rfl (by simp)
 |v1::p::c,d1::d2::ds,a =>
  have l: ¬ (v1::p::c).toArray.size=1:=by simp
  rw[dif_neg l];refine .tuple _ _ (by have:=a.length;simpa using this) (λj d o=>?_)
  have:=a.get j d o;simpa [Array.getD_eq_getD_getElem?,List.getD] using this
 |[],_::_,a=>exact a.elim
 |_::_,[],a=>exact a.elim
 |[_],_::_::_,a=>exact a.2.elim
 |_::_::_,[_],a=>exact a.2.elim
def EndQ (rs:List SR) (K:St->D->Prop) (e:Exit) (s:St):Prop:=match e with
 |.normal=>∃ ds,rs.mapM (resD s)=some ds/\K s (Z0C ds)
 |.ret=>∃ ds,rs.mapM (resD s)=some ds/\K s (Z0C ds)
 |.panic c=>∃ v,c=[{v,recovered:=false}]/\K s (.pan v)
 |_=>False
theorem Zjo [CodesOf P] (Z5:DrawSound P) (G:Fence.Open F) (g:F.round=none) {f:FuncId} {sc:SC} {rs:List SR} {cx:Cx} (A:GlobC cx.φ0 cx.w0 cx.Z) (hf:FnC P f cx.N sc rs) {K:St->D->Prop} {ob:Obs} {args:List D} {φ:Mem} {h:Nat->Value} {w:World} {vs:Array Value}
  (H:vs.size<=cx.N) (hm:Mod cx ⟨Zu 0 args,ob⟩ φ h (vs++Array.replicate (cx.N-vs.size) Go.undef) w)
  (E:sw P cx.bs sc (EndQ rs K) ⟨Zu 0 args,ob⟩) :
  CallsIn F n P f vs w λe w'=>∃ r s' φ' h' a,EndV φ' h' e r/\K s' r/\Mod cx s' φ' h' a w':=by
 obtain⟨fn,c,hi,z,k,I,m,t⟩:=hf.ex;refine callsIn_of_wp_marks z k (G.fn f) ?_ g;rw[I];have B:InRound F cx:=λl hl=>by rw[g] at hl;cases hl
 refine wpIn_mono (Z1b (n:=n) Z5 G c sc m cx [] rfl rfl A B _ _ φ h _ w hm E) ?_;have fin: ∀ (s':St) (φ':Mem) (h':Nat->Value) (tm:Array Value) (ds:List D),rs.mapM (resD s')=some ds->K s' (Z0C ds)-> ∀ w',Mod cx s' φ' h' tm w' →
   ∃ v,(results fn tm).run P w'= .ok v w'/\ ∃ r s' φ' h' a,EndV φ' h' (.returned v) r/\K s' r/\Mod cx s' φ' h' a w':=by
  intro s' φ' h' tm ds i j w' d;obtain⟨v,x,C⟩:=Z5C t i d;exact⟨v,x,Z0C ds,s',φ',h',tm,.inl ⟨v,rfl,C⟩,j,d⟩
 rintro e ⟨tm,df⟩ w' ⟨y,o,q,s',φ',h',p,d⟩;simp only[List.append_nil] at q;subst q;cases e with
 |normal=>obtain⟨ds,i,j⟩:=p;exact Z0f (fin s' φ' h' tm ds i j) y w' o d
 |ret=>obtain⟨ds,i,j⟩:=p;exact Z0f (fin s' φ' h' tm ds i j) y w' o d
 |panic c =>
  obtain⟨v,rfl,j⟩:=p
  have:=QZ (F:=F) (n:=n) (P:=P) (fn:=fn) (tmps:=tm) (R:=λe w'=>∃ r s' φ' h' a,EndV φ' h' e r/\K s' r/\Mod cx s' φ' h' a w') (u:=.panicking [{v,recovered:=false}]) (dd:=[]) (by simp)
   (λw' d=>⟨_,s',φ',h',tm,.inr ⟨v,rfl,rfl⟩,j,d⟩) y w' o d
  show LeavesInM F n P fn tm _ (y.map mkd) _ w';rw[List.append_nil] at this;exact this
 |exit _=>exact p.elim
 |goto _=>exact p.elim
 |outgrown=>exact p.elim
end
def dvt (obs:Nat->Option Ob):D->D
 |.tuple ds=>.tuple (ds.map (dv obs))
 |.agg ds=>.agg (ds.map (dv obs))
 |d=>dv obs d
theorem Z32 {own:Nat->Prop} {φ:Mem} {h:Nat->Value} {w:World} {obs:Nat->Option Ob} (c: ∀ i ob,obs i=some ob->live (h i)=true->ObR own φ h w (h i) ob) {v:Value} {d:D} (r:RV φ h v d):RV φ h v (dvt obs d):=by
 unfold dvt;split
 ·obtain⟨vs,rfl,h1,h2⟩:=r.tuple_inv;refine .tuple _ _ (by simpa using h1) λj d a=>?_;rw[List.getElem?_map] at a;cases f:(_:List D)[j]? with
  |none=>rw[f] at a;cases a
  |some g=>rw[f] at a;simp at a;subst a;exact Z0H c (h2 j g f)
 ·obtain⟨vs,rfl,h1,h2⟩:=r.agg_inv;refine .agg _ _ (by simpa using h1) λj d a=>?_;rw[List.getElem?_map] at a;cases f:(_:List D)[j]? with
  |none=>rw[f] at a;cases a
  |some g=>rw[f] at a;simp at a;subst a;exact Z0H c (h2 j g f)
 ·exact Z0H c r
def St.fin (k:Nat) (s:St) (r:D):St:=canS k (newN k s.ob [(0,r)]) [(0,r)] s.ob
def RetL (k:Nat) (R:D->Obs->Prop) (s:St) (r:D):Prop:=R ((s.fin k r).get (.t 0)) (s.fin k r).ob
section
variable {P:Program} {F:Fence} {n:Nat}
theorem Mod.leave {cx:Cx} {s':St} {φ φ':Mem} {h h':Nat->Value} {c:Array Value} {w w':World} {ob:Obs} {k:Nat} (C:cx.w0=w) (g:cx.φ0=φ) (j:cx.Z=ZOf ob h) (p:cx.bs=k) (x:cx.h0=h) (q:GlobC φ w (ZOf ob h)) (B:Obs.top ob<=k)
  (hm:Mod cx s' φ' h' c w') {v:Value} {r:D} (hv:RV φ' h' v r): ∃ h2,RV φ' h2 v ((s'.fin k r).get (.t 0))/\After ob φ h w (s'.fin k r).ob φ' h2 w':=by
 subst C;subst g;subst p;let cx1:Cx:={cx with N:=1};have y:Mod cx1 ⟨[(0,r)],s'.ob⟩ φ' h' #[v] w':=by
  refine⟨rfl,λt d l=>?_,hm.mem,hm.ext,hm.new,hm.ob,hm.sep,hm.os,hm.tape,hm.output,hm.grow,hm.one,hm.frame,hm.hfix,hm.kept⟩;simp only[lk] at l;split at l
  ·rename_i e;cases l;subst e;exact hv
  ·cases l
 obtain⟨h2,f,z⟩:=y.canS (tm:=[(0,r)]) (λ_ _ h=>h) (nw:=newN cx.bs s'.ob [(0,r)]);have a:Mod cx1 (s'.fin cx.bs r) φ' h2 #[v] w':=z;refine⟨h2,?_,⟨⟨a.one,(a.glob (by show GlobC cx.φ0 cx.w0 cx.Z;rw[j];exact q)).sub λb m=>a.zof m,a.mem,λi o A=>?_,a.sep⟩,a.ext,λb o u h1 h2=>?_,λb h1 h2=>a.frame b h1 (by show ¬ cx.Z b;rw[j];exact h2),λi hi=>?_,a.os,a.tape,a.output,a.grow⟩⟩
 ·exact f v r hv
 ·have:=a.ob i o A;exact this.keep (λb m=>m.elim .inl λh=>.inr (by have h':cx.Z b:=h;rw[j] at h';exact h')) (λ_ _=>rfl) (λ_ _ _ h=>h) (λ_ _ _=>rfl) (λ_ _ _ r=>r)
 ·exact (a.new b o u h1 h2).elim .inl λh=>.inr (by have h':cx.Z b:=h;rw[j] at h';exact h')
 ·obtain⟨o,A⟩:=Option.isSome_iff_exists.1 hi
  have:=(Obs.top_get B A).1;rw[<- x];exact a.hfix i this
theorem Loc.enter {ob ob1:Obs} {φ:Mem} {h:Nat->Value} {w:World} (hl:Loc (λ_=>True) ob φ h w) {N k:Nat} {E:Env} {vs:Array Value} {kp:Nat->Option Obj}
  (hsz:vs.size=N) (r: ∀ t d,lk E t=some d->RV φ h (vs.getD t Go.undef) d) (a: ∀ i o,lk ob1 i=some o->lk ob i=some o)
  (l: ∀ b o,kp b=some o->w.heap[b]? = some o/\(∀ off,φ b off=none)/\ ∀ i,(lk ob1 i).isSome->blk (h i)≠some b) :
  Mod {N,w0:=w,φ0:=φ,Z:=ZOf ob h,bs:=k,h0:=h,kp} ⟨E,ob1⟩ φ h vs w:=by
 refine⟨hsz,r,hl.mem,λ_ _ _ h=>h,(λb o v h h'=>by have h2:φ b o=none:=h';rw[h] at h2;cases h2),λi o x=>?_,λi j b hi y=>?_,rfl,rfl,rfl,Nat.le_refl _,hl.one,λ_ _ _=>rfl,λ_ _=>rfl,l⟩
 ·have c:=hl.obj i o (a i o x);have: ∀ b,blk (h i)=some b->ZOf ob h b:=λb f=>⟨i,by rw[a i o x];rfl,f⟩;revert this c;generalize h i=hv;intro c u;cases o with
  |cells cs=>obtain⟨b,vals,e,rfl,_,q⟩:=c;exact⟨b,vals,e,rfl,.inr (u b rfl),q⟩
  |gen g J=>obtain⟨b,vals,o,f,_,q⟩:=c;exact⟨b,vals,o,f,.inr (u b f),q⟩
  |arr fz sz e es=>obtain⟨B,C,xs,G,H,I⟩:=c;exact⟨B,C,xs,G,H,λb f=>⟨.inr (u b f),(I b f).2⟩⟩
 ·obtain⟨z,m⟩:=Option.isSome_iff_exists.1 hi;obtain⟨A,p⟩:=Option.isSome_iff_exists.1 y;exact hl.sep i j b (by rw[a i z m];rfl) (by rw[a j A p];rfl)
theorem Z30 {φ:Mem} {h:Nat->Value} {N:Nat} {ds:List D} {vs:Array Value} (hr:RVL φ h vs.toList ds) (t:Nat) (d:D) (g:lk (Zu 0 ds) t=some d):RV φ h ((vs++Array.replicate (N-vs.size) Go.undef).getD t Go.undef) d:=by
 obtain⟨_,a⟩:=Z6Q ds 0 t d g;simp only[Nat.sub_zero] at a;have c:=hr.length;have f:=(List.getElem?_eq_some_iff.1 a).1
 have:=hr.get t d a;have e:(vs++Array.replicate (N-vs.size) Go.undef).getD t Go.undef=vs.toList.getD t Go.undef:=by
  simp only[Array.getD_eq_getD_getElem?,List.getD];rw[Array.getElem?_append_left (by simpa [<- c] using f)];simp
 rw[e];exact this
theorem QD {φ:Mem} {h:Nat->Value}: ∀ {vs:List Value} {ds:List D} {c:List Value} {a:List D},RVL φ h vs ds->RVL φ h c a->RVL φ h (vs++c) (ds++a)
 |[],[],_,_,_,h2=>h2
 |_::_,_::_,_,_,h1,h2=>⟨h1.1,QD h1.2 h2⟩
 |[],_::_,_,_,h1,_=>h1.elim
 |_::_,[],_,_,h1,_=>h1.elim
theorem CallL.fn [CodesOf P] (Z5:DrawSound P) {f:FuncId} {N:Nat} {sc:SC} {rs:List SR} (hf:FnC P f N sc rs) (p:QE P f=true) {first caps args:List D} {ob:Obs} {R:D->Obs->Prop} (k:Nat) (B:Obs.top ob<=k)
  (C:(first++args++caps).length<=N)
  (u:sw P k sc (EndQ rs (RetL k R)) ⟨Zu 0 (first++args++caps),ob⟩) :
  CallL P (.func (.func f) first caps) args ob R:=by
 intro F G n φ h w v vs hp hv x;obtain⟨va,vc,rfl,ha,hc,l,m⟩:=func_inv hv;rw[Q6 p];show CallsIn F n P f (va++vs++vc) w _;have a:RVL φ h (va++vs++vc).toList (first++args++caps):=by
  rw[Array.toList_append,Array.toList_append];exact QD (QD (ZB _ _ (by simpa using ha) λj d c=>by have:=l j d c;simpa [Array.getD_eq_getD_getElem?,List.getD] using this) x)
   (ZB _ _ (by simpa using hc) λj d c=>by have:=m j d c;simpa [Array.getD_eq_getD_getElem?,List.getD] using this)
 have hsz:(va++vs++vc).size<=N:=by
  have:=a.length;simp only[Array.length_toList] at this;omega
 refine G.calls (callsIn_wide (n:=0).1 ?_) n;have o:=hp.enter (N:=N) (k:=k) (kp:=λ_=>none) (vs:=(va++vs++vc)++Array.replicate (N-(va++vs++vc).size) Go.undef) (by rw[Array.size_append,Array.size_replicate];omega) (λt d c=>Z30 a t d c) (ob1:=ob) (λ_ _ h=>h) (λ_ _ h=>by cases h);refine CallsIn.mono (Zjo (cx:={N,w0:=w,φ0:=φ,Z:=ZOf ob h,bs:=k,h0:=h,kp:=λ_=>none}) Z5 Z2M rfl hp.glob hf (K:=RetL k R) hsz o u) ?_;rintro e w' ⟨r,s',φ',h',z,g,A,i⟩;rcases g with⟨v,rfl,q⟩|⟨v,rfl,rfl⟩
 ·obtain⟨h2,E,y⟩:=i.leave rfl rfl rfl rfl rfl hp.glob B q;exact .ret A E y
 ·obtain⟨h2,E,y⟩:=i.leave rfl rfl rfl rfl rfl hp.glob B (.undef Go.undef);exact⟨_,_,φ',h2,.inr ⟨v,rfl,rfl⟩,A,y⟩
theorem Loc.frz {own:Nat->Prop} {ob:Obs} {φ:Mem} {h:Nat->Value} {w:World} (hl:Loc own ob φ h w):(∀ b o v,φ b o=some v->memZ ob φ h w b o=some v)/\(∀ b o v,memZ ob φ h w b o=some v->φ b o=none->own b)/\Loc own (frzO ob) (memZ ob φ h w) h w:=by
 obtain⟨a,d,hmem,f,j⟩:=Z9k hl.mem hl.obj hl.sep;have c: ∀ b,ZOf (frzO ob) h b->ZOf ob h b:=λb ⟨i,hi,l⟩=>⟨i,by rw[Z2S] at hi;cases p:lk ob i with
  |none=>rw[p] at hi;cases hi
  |some o=>rfl,l⟩
 exact⟨a,d,hl.one,⟨λg cs m=>(hl.glob.ok g cs m).mono a,λg arr hx=>⟨(hl.glob.x g arr hx).1,λk=>(hl.glob.x g arr hx).2 (c _ k)⟩,λg hx=>⟨(hl.glob.i g hx).1,λk=>(hl.glob.i g hx).2 (c _ k)⟩⟩,hmem,f,j⟩
theorem CallL.frzAll {P:Program} {d:D} {args:List D} {ob:Obs} {R:D->Obs->Prop} (hc:CallL P d args ob R):CallL P d args ob λr o=>∃ o0,o=frzO o0/\R r o0:=by
 intro F j n φ h w v vs hp hv f;refine (hc F j n φ h w v vs hp hv f).mono ?_;rintro e w' ⟨r,ob',φ',h',a,k,ha⟩;obtain⟨i,m,p⟩:=ha.loc.frz;refine⟨r,frzO ob',memZ ob' φ' h' w',h',?_,⟨ob',rfl,k⟩,⟨p,λb o v hv=>i b o v (ha.ext b o v hv),λb o v h1 h2=>?_,ha.frame,ha.hfix,ha.os,ha.tape,ha.output,ha.grow⟩⟩
 ·rcases a with⟨v,l,c⟩|h
  ·exact .inl ⟨v,l,c.mono i⟩
  ·exact .inr h
 ·cases g:φ' b o with
  |some u=>exact ha.new b o u g h2
  |none=>exact m b o v h1 g
def ZjP (r:D) (d:D) (ob:Obs):Prop :=
 (∃ id sz e es,d=.vec id/\lk ob id=some (.arr true sz e es)/\r=.own sz e es)\/(D.clo (dvt (lk ob) d)=true/\r=dvt (lk ob) d)
def RetK (r:D) (d:D) (ob:Obs):Prop :=
 (∃ id sz e es,d=.vec id/\lk (frzO ob) id=some (.arr true sz e es)/\r=.own sz e es)\/(D.clo (dvt (lk (frzO ob)) d)=true/\r=dvt (lk (frzO ob)) d)
theorem FnOK.of_call0 {f:FuncId} (C:QE P f=true) {args:List D} {r:D} (hc:CallL P (.func (.func f) [] []) args [] (ZjP r)):FnOK P f args r:=by
 intro φ hh w vs x A y hsz l;have hl:Loc (λ_=>True) [] φ hh w:=⟨x,A.sub (λb ⟨i,hi,_⟩=>by simp[lk] at hi),y,λi o M=>by simp[lk] at M,λi j b hi=>by simp[lk] at hi⟩;have E:RVL φ hh vs.toList args:=ZB _ _ (by simpa using hsz) λj d I=>by have:=l j d I;simpa [Array.getD_eq_getD_getElem?,List.getD] using this
 have g:=hc _ Z2M 0 φ hh w (.func (.func f) #[] #[]) vs hl (.func _ _ _ _ _ rfl rfl (by simp) (by simp)) E;rw[Q6 C] at g;have c:CallsIn Fence.wide 0 P f (#[]++vs++ #[]) w (Post [] φ hh w (ZjP r)):=g;simp only[Array.empty_append,Array.append_empty] at c;refine (callsIn_wide (n:=0).1 c).mono ?_;intro e w' m;obtain⟨v,d,ob',φ',h',rfl,z,hv,ha⟩:=m.dest λd ob' z=>by
  rcases z with⟨id,sz,e,es,rfl,_⟩|⟨hc,_⟩
  ·rfl
  ·cases d<;>first|rfl|(simp[dvt,dv,D.clo] at hc)
 have G: ∀ b,¬ ZOf [] hh b:=λb ⟨i,hi,_⟩=>by simp[lk] at hi
 have t:Below w.heap.size w w':=⟨ha.os,ha.tape,ha.output,ha.grow,λk L=>ha.frame k L (G k)⟩;refine⟨v,φ',rfl,?_,t,ha.ext,ha.loc.mem,λb o u h1 h2=>(ha.new b o u h1 h2).elim id λh=>(G b h).elim⟩;rcases z with⟨id,sz,e,es,rfl,B,rfl⟩|⟨a,rfl⟩
 ·have:=ha.loc.obj id _ B;rw[<- hv.vec_inv] at this;exact this.keep (h':=noH) (λb H=>H.elim (λh=>h) λh=>(G b h).elim) (λ_ _=>rfl) (λ_ _ _ h=>h) (λ_ _ _=>rfl) (λ_ _ J=>by cases J)
 ·have p:=Z32 (obs:=lk ob') (own:=λb=>w.heap.size<=b\/ZOf [] hh b) (λi ob hi _=>ha.loc.obj i ob hi) hv;revert p a;generalize dvt (lk ob') d=r;intro a p;have q: ∀ h2,RV φ' h2 v r:=λh2=>p.closed a h2;cases r<;>first|exact q|(simp[D.clo] at a)
theorem FnOK.of_call {f:FuncId} (a:QE P f=true) {args:List D} {r:D} (hc:CallL P (.func (.func f) [] []) args [] (RetK r)):FnOK P f args r :=
 FnOK.of_call0 a (hc.frzAll.mono λd o ⟨o0,h1,h2⟩=>by subst h1;exact h2)
end
end Go.Sx
namespace Go.Sx
open Go.RowKit
variable [Globs] [Codes]
def putP:List (Nat × D)->Env->Env
 |[],tm=>tm
 |(t,d)::r,tm=>putP r ((t,d)::Za t tm)
section
variable {P:Program} {F:Fence} {n:Nat}
theorem Z9d {φ:Mem} {h:Nat->Value}: ∀ (ps:List Nat) (vs:List Value) (ds:List D) (tm:Env) (tmps:Array Value),RVL φ h vs ds->(∀ t∈ps,t<tmps.size)->(∀ t d,lk tm t=some d->RV φ h (tmps.getD t Go.undef) d) →
  ∀ t d,lk (putP (ps.zip ds) tm) t=some d->RV φ h (((ps.zip vs).foldl (λtm x=>tm.setIfInBounds x.1 x.2) tmps).getD t Go.undef) d
 |[],vs,ds,tm,tmps,_,_,a=>by simpa [putP] using a
 |p::ps,v::vs,d0::ds,tm,tmps,h1,h2,a=>by
  intro t d hl;simp only[List.zip_cons_cons,putP] at hl;simp only[List.zip_cons_cons,List.foldl_cons];refine Z9d ps vs ds _ (tmps.setIfInBounds p v) h1.2 (λt c=>by simpa using h2 t (List.mem_cons_of_mem _ c)) (λt d hl=>?_) t d hl;rw[ZN] at hl;simp only[lk] at hl;have hp:=h2 p (by simp);split at hl
  ·rename_i e;cases hl;subst e;have:(tmps.setIfInBounds t v).getD t Go.undef=v:=by simp[Array.getD,hp]
   rw[this];exact h1.1
  ·rename_i e;have:(tmps.setIfInBounds p v).getD t Go.undef=tmps.getD t Go.undef:=by simp[Array.getD_eq_getD_getElem?,Ne.symm e]
   rw[this];exact a t d hl
 |p::ps,[],[],tm,tmps,_,_,a=>by simpa [putP] using a
 |_::_,[],_::_,_,_,h1,_,_=>h1.elim
 |_::_,_::_,[],_,_,h1,_,_=>h1.elim
theorem Z2c: ∀ (l:List (Nat × Value)) (tmps:Array Value),(l.foldl (λtm x=>tm.setIfInBounds x.1 x.2) tmps).size=tmps.size
 |[],_=>rfl
 |_::l,tmps=>by rw[List.foldl_cons,Z2c l];simp
def Cx.setk (cx:Cx) (l:Nat) (o:Obj):Cx:={cx with kp:=λb=>if b=l then some o else cx.kp b}
theorem Mod.setKp {cx:Cx} {s:St} {φ:Mem} {h:Nat->Value} {tmps:Array Value} {w:World} {l:Nat} {o0 o1:Obj} (hm:Mod cx s φ h tmps w) (f:cx.kp l=some o0) (p:cx.own l):Mod (cx.setk l o1) s φ h tmps (w.putObj l o1):=by
 obtain⟨h1,h2,t⟩:=hm.kept l o0 f;have q:=(Array.getElem?_eq_some_iff.1 h1).1;have c: ∀ k,k≠l->(w.putObj l o1).heap[k]? = w.heap[k]? :=λk f=>World.putObj_heap_other f;refine⟨hm.size,hm.tm,λg o v hv=>?_,hm.ext,hm.new,λi o u=>?_,hm.sep,hm.os,hm.tape,hm.output,by rw[World.putObj_size];exact hm.grow,hm.one,λk j m=>?_,hm.hfix,λk o d=>?_⟩
 ·have y:g≠l:=λe=>by rw[e,h2] at hv;cases hv
  rw[World.cell?_of_block (w:=w) (a:=⟨g,o,none⟩) (c g y)];exact hm.mem g o v hv
 ·exact (hm.ob i o u).keep (λ_ x=>x) (λk f=>c k λe=>t i (by rw[u];rfl) (e ▸ f)) (λ_ _ _ h=>h) (λ_ _ _=>rfl) (λ_ _ _ r=>r)
 ·rw[c k (λe=>by subst e;exact p.elim (λh=>by have h':k<cx.w0.heap.size:=j;omega) (λh=>m h))];exact hm.frame k j m
 ·simp only[Cx.setk] at d;split at d
  ·rename_i e;cases d;subst e;exact⟨World.putObj_heap_same q,h2,t⟩
  ·rename_i e;obtain⟨z,A,B⟩:=hm.kept k o d;exact⟨by rw[c k e];exact z,A,B⟩
def YRet (P:Program) (k:Nat) (R:D->Obs->Prop) (c N:Nat) (ps:Array Tmp) (a b:SC) (keys:List Nat) (ds:List D) (pend:Option Code) (s:St):Prop :=
 R (.bool pend.isNone) ((c,.gen (.loop (if pend.isNone then .ready else .done) pend ps a b N keys) ds)::(s.canon k []).ob)
theorem ZcU {t:Nat} {d:D}: ∀ {keys:List Nat} {ds:List D},lk (keys.zip ds) t=some d-> ∃ j:Nat,keys[j]? = some t/\ds[j]? = some d
 |[],_,h=>by simp[lk] at h
 |_::_,[],h=>by simp[lk] at h
 |k::keys,x::ds,h=>by
  simp only[List.zip_cons_cons,lk] at h;split at h
  ·rename_i e;cases h;exact⟨0,by simp[e],by simp⟩
  ·obtain⟨j,h1,h2⟩:=ZcU h;exact⟨j+1,by simpa using h1,by simpa using h2⟩
theorem Zam {s:St} {k a:Nat} (h:lk s.ob a=none) (g:a<k):lk (s.canon k []).ob a=none:=by
 cases c:lk (s.canon k []).ob a with
 |none=>rfl
 |some o =>
  exfalso;simp only[St.canon,frzT,hasF,thaw,hasS,List.any_nil,canS] at c;rw[Z08,Zt] at c;cases h1:lk (oldO k (canG k (newN k s.ob (kept s.tm []))) s.ob) a with
  |some o' =>
   obtain⟨_,o0,h2,_⟩:=Z4c _ _ _ h1;rw[h] at h2;cases h2
  |none =>
   rw[h1] at c;simp only[Option.none_or] at c;obtain⟨i,o0,h2,d,_⟩:=Z2O _ _ _ _ c;simp only[canG] at h2;split at h2
   ·cases h2;rw[h] at d;cases d
   ·cases f:idx i (newN k s.ob (kept s.tm [])) with
    |none=>rw[f] at h2;cases h2
    |some q=>rw[f] at h2;simp at h2;omega
theorem CallL.yld [CodesOf P] (Z5:DrawSound P) {N:Nat} {ps:Array Tmp} {a b:SC} {keys:List Nat} {ds:List D} {c:Nat} {args:List D} {ob:Obs} {R:D->Obs->Prop} (k:Nat) (hk:Obs.top ob<=k)
  (g:lk ob c=some (.gen (.loop .ready none ps a b N keys) ds)) (hps:ps.size=args.length) (hpN: ∀ t∈ps.toList,t<N)
  (hsw:sw P k a (λe s=>match e with
   |.normal=>sw P k b (λe s'=>lk s'.ob c=none/\match e with
    |.normal=>YRet P k R c N ps a b keys ds none s'
    |.ret=>YRet P k R c N ps a b keys ds (some .ret) s'
    |.exit i=>YRet P k R c N ps a b keys ds (some (.exit i)) s'
    |_=>False) s
   |_=>False) ⟨putP (ps.toList.zip args) (keys.zip ds),Za c ob⟩) :
  CallL P (.yld c) args ob R:=by
 intro F hF n φ h w v vs hp hv hvs;obtain⟨l,I,rfl⟩: ∃ l,h c=.pointer (some ⟨l,0,none⟩)/\v=.func (.yield l) #[] #[]:=by
  cases hv with
  |pure r=>cases r
  |yld _ l hh=>exact⟨l,hh,rfl⟩
 have J:=hp.obj c _ g;rw[I] at J;obtain⟨b0,vals,o,hb0,hown,m,hgis,hvl,O,U⟩:=J;cases hb0;obtain⟨_,r,rfl,hst,hpe,z,hca,hcb,B,rfl⟩:=hgis;obtain⟨hia,ha⟩:=(CodesOf.ci (P:=P) _ _ _).1 hca;obtain⟨hib,L⟩:=(CodesOf.ci (P:=P) _ _ _).1 hcb;have hlt:=(Array.getElem?_eq_some_iff.1 m).1;have A:c<k:=(Obs.top_get hk g).1;have hvsz:vs.size=r.params.size:=by rw[z,hps];have:=hvs.length;simpa using this
 have hrv0: ∀ t d,lk (keys.zip ds) t=some d->RV φ h (r.tmps.getD t Go.undef) d:=λt d hl=>by
  obtain⟨j,h1,h2⟩:=ZcU hl;have h3:=O j d h2;have:(keys.map λt=>r.tmps.getD t Go.undef).getD j Go.undef=r.tmps.getD t Go.undef:=by simp[List.getD,List.getElem?_map,h1]
  rw[this] at h3;exact h3
 -- the round's frame
 have hrun:(Z4r (.func (.yield l) #[] #[]) vs).run P w=.ok (.round l r.fn ((r.params.zip vs).foldl (λtmps (t,a)=>tmps.setIfInBounds t a) r.tmps) r.assign r.body) w:=by
  simp only[Z4r,Deferred.ofValue,invoke,Sem.run_bind,Sem.run_pure,Result.andThen_ok];rw[Array.empty_append];exact run_yield m hvsz
 rw[hrun];show RoundIn F n P l r.fn _ r.assign r.body w _;refine roundIn_of_wpIn (hF.fn _) ?_;have Q:(r.params.zip vs).foldl (λtmps (t,a)=>tmps.setIfInBounds t a) r.tmps=(ps.toList.zip vs.toList).foldl (λtm x=>tm.setIfInBounds x.1 x.2) r.tmps:=by
  rw[z,<- Array.foldl_toList,Array.toList_zip]
 rw[Q];have X:((ps.toList.zip vs.toList).foldl (λtm x=>tm.setIfInBounds x.1 x.2) r.tmps).size=N:=by rw[Z2c,B]
 have hm':=hp.enter (N:=N) (k:=k) (kp:=λb=>if b=l then some (.loop r) else none) (E:=putP (ps.toList.zip args) (keys.zip ds)) (ob1:=Za c ob) X
  (Z9d ps.toList vs.toList args (keys.zip ds) r.tmps hvs (λt ht=>by rw[B];exact hpN t ht) hrv0)
  (λi o y=>by
   rw[ZD] at y;split at y
   ·cases y
   ·exact y)
  (λq o hq=>by
   split at hq
   ·rename_i e;cases hq;subst e;refine⟨m,U,λi hi hbi=>?_⟩;rw[ZD] at hi;split at hi
    ·cases hi
    ·rename_i hne;exact hne (hp.sep i c q hi (by rw[g];rfl) hbi (by rw[I];rfl))
   ·cases hq)
 have C:ZOf ob h l:=⟨c,by rw[g];rfl,by rw[I];rfl⟩;refine wpIn_mono (Z1b (n:=n) Z5 (hF.inRound l) r.assign a ha _ [] rfl rfl hp.glob (λl' T=>⟨r,by
  have:some l=some l':=T;cases this;simp⟩) _ _ φ h _ w hm' hsw) ?_
 rintro e a1 w1 ⟨ms1,hnd1,hdf1,s1,φ1,h1,hq1,hm1⟩;cases e<;>try exact hq1.elim
 -- the round begins
 have hk1: ∀ {cx1:Cx},cx1.kp l=some (.loop r)-> ∀ ms,(cx1.more ms).kp l=some (.loop r):=λhk ms=>by simp[Cx.more,hk]
 have M:=hk1 (cx1:={N,w0:=w,φ0:=φ,Z:=ZOf ob h,bs:=k,h0:=h,kp:=λb=>if b=l then some (.loop r) else none}) (by simp) ms1;have G:=(hm1.kept l _ M).1;refine⟨_,run_beginRound G hst,?_⟩;have hm1b:=hm1.setKp (o1:=.loop {r with state:=.busy}) M (.inr C);obtain⟨tm1,df1⟩:=a1;refine wpIn_mono (Z1b (n:=n) Z5 (hF.inRound l) r.body b L _ df1 rfl rfl hp.glob (λl' T=>⟨{r with state:=.busy},by
  have:some l=some l':=T;cases this;simp[Cx.setk]⟩) _ _ φ1 h1 tm1 _ hm1b hq1) ?_
 rintro e a2 w2 ⟨ms2,hnd2,hdf2,Y,φ2,h2,⟨hrn,hq2⟩,hm2⟩;have hk2:((Cx.setk (Cx.more {N,w0:=w,φ0:=φ,Z:=ZOf ob h,bs:=k,h0:=h,kp:=λb=>if b=l then some (.loop r) else none} ms1) l (.loop {r with state:=.busy})).more ms2).kp l=some (.loop {r with state:=.busy}):=by
  simp[Cx.more,Cx.setk]
 have H:=(hm2.kept l _ hk2).1;have fin: ∀ pend:Option Code,YRet P k R c N ps a b keys ds pend Y →
   ∃ v w',(Instr.endRound l pend).run P w2=.ok v w'/\Post ob φ h w R (.returned v) w':=by
  intro pend hy;refine⟨_,_,run_endRound pend H,?_⟩;have hm3:=hm2.setKp (o1:=.loop { {r with state:=.busy} with state:=if pend.isNone then .ready else .done,pending:=pend}) hk2 (.inr C);obtain⟨hh,_,hm4⟩:=hm3.canS (tm:=[]) (λ_ _ h=>by simp[lk] at h) (nw:=newN k Y.ob []);have hcn:canS k (newN k Y.ob []) [] Y.ob=Y.canon k []:=rfl;have f:Mod _ (Y.canon k []) φ2 hh _ _:=hm4;have p:hh c=.pointer (some ⟨l,0,none⟩):=by rw[f.hfix c A];exact I
  have hrn':=Zam hrn A;have S:=f.kept l (.loop { {r with state:=.busy} with state:=if pend.isNone then .ready else .done,pending:=pend}) (by simp[Cx.setk]);refine .ret hy (.pure (.bool _)) ⟨⟨f.one,(f.glob hp.glob).sub (λb ⟨i,hi,L⟩=>by
   simp only[lk] at hi;split at hi
   ·rename_i e;subst e;rw[p] at L;simp only[blk,Option.some.injEq] at L;exact L ▸ .inr C
   ·exact f.zof ⟨i,hi,L⟩),f.mem,λi o y=>?_,λi j q hi hj V W=>?_⟩,f.ext,λb o u q1 q2=>(f.new b o u q1 q2),λb q1 q2=>f.frame b q1 q2,λi hi=>?_,f.os,f.tape,f.output,f.grow⟩
  ·simp only[lk] at y;split at y
   ·rename_i e;subst e;cases y;rw[p];refine⟨l,keys.map λt=>r.tmps.getD t Go.undef,_,rfl,.inr C,S.1,⟨⟨l,rfl⟩,_,rfl,rfl,rfl,z,hca,hcb,B,rfl⟩,hvl,λj d hd=>?_,λoff=>S.2.1 off⟩;have hdt:D.top d<=k:=Z40 (Obs.top_get hk g).2 (List.mem_of_getElem? hd);exact ((O j d hd).mono f.ext).under hdt λi hi=>f.hfix i hi
   ·have J:=f.ob i o y;exact J.keep (λb L=>L) (λ_ _=>rfl) (λ_ _ _ h=>h) (λ_ _ _=>rfl) (λ_ _ _ r=>r)
  ·have key: ∀ i',(lk (Y.canon k []).ob i').isSome->blk (hh i')=some q->blk (hh c)=some q->False:=λi' h1 h2 h3=>by
    rw[p] at h3;cases h3;exact S.2.2 i' h1 h2
   simp only[lk] at hi hj;by_cases e1:i=c<;>by_cases e2:j=c
   ·rw[e1,e2]
   ·rw[if_neg e2] at hj;exact (key j hj W (by rw[<- e1];exact V)).elim
   ·rw[if_neg e1] at hi;exact (key i hi V (by rw[<- e2];exact W)).elim
   ·rw[if_neg e1] at hi;rw[if_neg e2] at hj;exact f.sep i j q hi hj V W
  ·obtain⟨o,y⟩:=Option.isSome_iff_exists.1 hi;exact f.hfix i (Obs.top_get hk y).1
 cases e<;>first|exact hq2.elim|exact fin _ hq2
end
end Go.Sx
namespace Go.Sx
open Go.RowKit
variable [Globs] [Codes]
section congr
variable {P:Program} {dst:Nat} {obs obs':Nat->Option Ob} {K:D->Option Ob->Prop}
theorem Z71 {d:D} (h: ∀ i∈vids [d],obs i=obs' i):dv obs d=dv obs' d:=by
 cases d<;>first|rfl|(rename_i id;simp only[dv];rw[h id (by simp[vids])])
theorem QQ {d:D} {r:List D} {i:Nat}:i∈vids (d::r) ↔ i∈vids [d]\/i∈vids r:=by
 cases d<;>simp[vids]
theorem Z33: ∀ {ds:List D},(∀ i∈vids ds,obs i=obs' i)->ds.map (dv obs)=ds.map (dv obs')
 |[],_=>rfl
 |d::r,h=>by
  rw[List.map_cons,List.map_cons,Z71 λi hi=>h i (QQ.2 (.inl hi)),Z33 λi hi=>h i (QQ.2 (.inr hi))]
theorem Z2o: ∀ {ps:List (Nat × Nat)} {ds cs:List D},(∀ i∈vids ds,obs i=obs' i)->QX obs cs ps ds=QX obs' cs ps ds
 |[],[],cs,_=>rfl
 |[],_::_,cs,_=>rfl
 |_::_,[],cs,_=>rfl
 |(off,sz)::ps,d::ds,cs,h=>by
  simp only[QX];rw[Z71 (obs':=obs') λi hi=>h i (QQ.2 (.inl hi))];split
  ·exact Z2o λi hi=>h i (QQ.2 (.inr hi))
  ·rfl
theorem Z1B {d:D} (h: ∀ i∈vids [d],obs i=obs' i):Z05 obs d=Z05 obs' d:=by
 cases d<;>first|rfl|(rename_i id;simp only[Z05];rw[h id (by simp[vids])])
theorem Z5v {d:D} (h: ∀ i∈vids [d],obs i=obs' i):Z3i obs d=Z3i obs' d:=by
 cases d<;>first|rfl|(rename_i id;simp only[Z3i];rw[h id (by simp[vids])])
theorem Z8E {sz:SK} {a b id:Nat} {x y:D} {o:Ob} (h:stO sz x y obs=some (a,b,id,o)) (hi:obs id=obs' id):stO sz x y obs'=some (a,b,id,o):=by
 unfold stO at h ⊢;cases x with
 |ptr d off =>
  cases sz with
  |m key=>cases h
  |k kd x=>cases h
  |cp _ _=>cases h
  |c sz =>
  simp only at h ⊢;have e:d=id:=by
   cases f:obs d with
   |none=>rw[f] at h;cases h
   |some q =>
    rw[f] at h;cases q with
    |cells cs =>
     simp only at h;split at h
     ·cases h;rfl
     ·cases h
    |arr=>cases h
    |gen=>cases h
  subst e;rw[<- hi];exact h
 |vptr d i j l =>
  cases sz with
  |m key=>cases h
  |k kd x=>cases h
  |cp _ _=>cases h
  |c sz =>
  simp only at h ⊢;have e:d=id:=by
   cases f:obs d with
   |none=>rw[f] at h;cases h
   |some q =>
    rw[f] at h;cases q with
    |cells cs=>cases h
    |arr fz _ _ _ =>
     cases fz with
     |true=>cases h
     |false =>
      simp only at h;split at h
      ·cases h;rfl
      ·cases h
    |gen=>cases h
  subst e;rw[<- hi];exact h
 |map d =>
  cases sz with
  |c sz=>cases h
  |k kd x=>cases h
  |cp _ _=>cases h
  |m key =>
  simp only at h ⊢;have e:d=id:=by
   cases f:obs d with
   |none=>rw[f] at h;cases h
   |some q =>
    rw[f] at h;cases q with
    |cells cs=>cases h
    |arr fz _ _ _=>cases h
    |gen g ds =>
     cases g with
     |loop=>cases h
     |mapB=>cases h
     |mapS=>cases h
     |iter=>cases h
     |map ks =>
      simp only at h;split at h
      ·cases h;rfl
      ·cases h
     |mapC ks cs =>
      cases ds with
      |cons _ _=>cases h
      |nil =>
       simp only at h;split at h
       ·split at h
        ·cases h;rfl
        ·cases h
       ·cases h
  subst e;rw[<- hi];exact h
 |vec d =>
  cases sz with
  |c sz=>cases h
  |m key=>cases h
  |k kd x=>cases h
  |cp dst sz =>
  simp only at h ⊢;have e:d=id:=by
   cases f:obs d with
   |none=>rw[f] at h;cases h
   |some q =>
    rw[f] at h;cases q with
    |cells cs=>cases h
    |gen=>cases h
    |arr fz _ _ _ =>
     cases fz with
     |true=>cases h
     |false =>
      simp only at h;split at h
      ·split at h
       ·cases h;rfl
       ·cases h
      ·cases h
  subst e;rw[<- hi];exact h
 |vwin d i l =>
  cases sz with
  |c sz=>cases h
  |m key=>cases h
  |k kd x=>cases h
  |cp dst sz =>
  simp only at h ⊢;have e:d=id:=by
   cases f:obs d with
   |none=>rw[f] at h;cases h
   |some q =>
    rw[f] at h;cases q with
    |cells cs=>cases h
    |gen=>cases h
    |arr fz _ _ _ =>
     cases fz with
     |true=>cases h
     |false =>
      simp only at h;split at h
      ·split at h
       ·cases h;rfl
       ·cases h
      ·cases h
  subst e;rw[<- hi];exact h
 |_=>cases h
theorem Zbk {P:Program} {dst sz:Nat} {lo hi:Bool} {d:D} {bs:List D} {K:D->Option Ob->Prop} (a:evl P dst (.slice sz lo hi) (d::bs) obs K) (h: ∀ i∈vids (d::bs),obs i=obs' i):evl P dst (.slice sz lo hi) (d::bs) obs' K:=by
 simp only[evl] at a ⊢;rw[<- Z1B (obs:=obs) λi hi=>h i (QQ.2 (.inl hi))];cases hs:Z05 obs d with
 |some p=>rw[hs] at a;exact a
 |none =>
  rw[hs] at a;simp only at a ⊢;cases d<;>try exact a
  rename_i id;have e:=h id (by simp[vids]);cases bs with
  |nil=>exact a
  |cons b r =>
   cases r with
   |cons _ _=>cases b<;>exact a
   |nil =>
    cases b<;>try exact a
    simp only at a ⊢;rw[<- e];exact a
theorem Z5B {d:D} (h: ∀ i∈vids [d],obs i=obs' i):Z1Z obs d=Z1Z obs' d:=by
 cases d<;>first|rfl|(rename_i id;simp only[Z1Z];rw[h id (by simp[vids])])
theorem Z5I {kd:Option IntKind} {z key:D} {id:Nat} (a:evl P dst (.mlook kd z) [.map id,key] obs K) (h:obs id=obs' id):evl P dst (.mlook kd z) [.map id,key] obs' K:=by
 simp only[evl] at a ⊢;rw[<- h];exact a
theorem Z7P {sz id off:Nat} (a:evl P dst (.load true sz) [.ptr id off] obs K) (h: ∀ i∈rdA obs (.load true sz) [.ptr id off],obs i=obs' i):evl P dst (.load true sz) [.ptr id off] obs' K:=by
 have h1:obs id=obs' id:=h id (by simp[rdA]);simp only[evl] at a ⊢;rw[<- h1];cases c:obs id with
 |none=>rw[c] at a;exact a
 |some o =>
  rw[c] at a;cases o with
  |cells cs =>
   simp only[if_true] at a ⊢;rw[<- Z33 (obs:=obs) λi hi=>h i (by simp only[rdA,c];exact List.mem_cons_of_mem _ hi)];exact a
  |arr=>exact a
  |gen=>exact a
theorem Z9T {op:AOp} {xs:List D} (a:evl P dst op xs obs K) (h: ∀ i∈rdA obs op xs,obs i=obs' i):evl P dst op xs obs' K:=by
 by_cases hl: ∃ sz id off,op=.load true sz/\xs=[.ptr id off]
 ·obtain⟨sz,id,off,rfl,rfl⟩:=hl;exact Z7P a h
 by_cases c: ∃ kd z id key,op=.mlook kd z/\xs=[.map id,key]
 ·obtain⟨kd,z,id,key,rfl,rfl⟩:=c;exact Z5I a (h id (by simp[rdA]))
 by_cases f: ∃ sz lo hi d bs,op=.slice sz lo hi/\xs=d::bs
 ·obtain⟨sz,lo,hi,d,bs,rfl,rfl⟩:=f;exact Zbk a h
 unfold evl at a;split at a;all_goals try exact absurd ⟨_,_,_,_,_,rfl,rfl⟩ f
 all_goals try exact absurd ⟨_,_,_,_,rfl,rfl⟩ c
 all_goals try (simp only[evl];exact a)
 all_goals try
  (
   rename_i ag sz id off;cases ag
   ·simp only[evl];rw[<- h id (by simp[rdA,pids])];exact a
   ·exact absurd ⟨sz,id,off,rfl,rfl⟩ hl)
 all_goals simp only[rdA] at h
 all_goals try simp only[evl]
 all_goals first
  |(rw[<- Z2o (obs:=obs) h];exact a)
  |(rw[<- h _ (by simp[vids])];exact a)
  |(rw[<- Z5B (obs:=obs) h];exact a)
  |(rw[<- Z1B (obs:=obs) λi hi=>h i (QQ.2 (.inl hi))];exact a)
  |(rw[<- Z33 (obs:=obs) h];exact a)
  |(rw[Z7V h];exact a)
  |exact a
theorem Z96 {op:AOp} {xs:List D} (h: ∀ i∈rdA obs op xs,obs i=obs' i):rdA obs' op xs=rdA obs op xs:=by
 by_cases hl: ∃ sz id off,op=.load true sz/\xs=[.ptr id off]
 ·obtain⟨sz,id,off,rfl,rfl⟩:=hl;have h1:obs id=obs' id:=h id (by simp[rdA]);simp only[rdA,h1]
 ·unfold rdA;split
  ·exact absurd ⟨_,_,_,rfl,rfl⟩ hl
  all_goals first
   |rfl
   |(simp only[rdA] at h;exact Z5T h)
end congr
section has
variable {P:Program} {b:Nat} {s s':St} {e:Eff}
theorem Qq {x:X} (h: ∀ t∈Z0S [x],lk s.tm t=lk s'.tm t):s.get x=s'.get x:=by
 cases x with
 |t t=>simp only[St.get];rw[h t (by simp[Z0S])]
 |c d=>rfl
theorem ZS {x:X} {r:List X} {t:Nat}:t∈Z0S (x::r) ↔ t∈Z0S [x]\/t∈Z0S r:=by
 cases x<;>simp[Z0S]
theorem Z3E: ∀ {xs:List X},(∀ t∈Z0S xs,lk s.tm t=lk s'.tm t)->xs.map s.get=xs.map s'.get
 |[],_=>rfl
 |x::r,h=>by
  rw[List.map_cons,List.map_cons,Qq λt a=>h t (ZS.2 (.inl a)),Z3E λt a=>h t (ZS.2 (.inr a))]
theorem Z9K {g:Option (Nat × Bool)} {p q:Prop} (h: ∀ t∈Z5o g,lk s.tm t=lk s'.tm t) (a:gud g s p q):gud g s' p q:=by
 cases g with
 |none=>exact a
 |some c =>
  obtain⟨t,w⟩:=c;simp only[gud] at a ⊢;rw[<- h t (by simp[Z5o])];exact a
theorem Qj {g:Option (Nat × Bool)} {p q f i:Prop} (hp:p->f) (d:q->i) (a:gud g s p q):gud g s f i:=by
 cases g with
 |none=>exact hp a
 |some j =>
  obtain⟨t,w⟩:=j;simp only[gud] at a ⊢;split at a
  ·split at a
   ·rename_i c;rw[if_pos c];exact hp a
   ·rename_i c;rw[if_neg c];exact d a
  ·exact d a
  ·exact a
theorem Z52 {c:D} {obs obs':Nat->Option Ob} {d:D} (h: ∀ i∈vids [d],obs i=obs' i):dva c obs d=dva c obs' d:=by
 cases d<;>first|rfl|(rename_i id;simp only[dva];rw[h id (by simp[vids])])
theorem Z1t {ob ob':Obs} {g:Nat->Option Nat}: ∀ {r:List Nat} {k:Nat},(∀ i∈r,lk ob i=lk ob' i)->Q4 ob g k r=Q4 ob' g k r
 |[],_,_=>rfl
 |i::r,k,h=>by
  simp only[Q4];rw[h i (by simp),Z1t λj a=>h j (List.mem_cons_of_mem _ a)]
theorem Z6l {xs:List X} {y:X} (a:y∈xs) {f:X->D} {i:Nat} (hi:i∈vids [f y]):i∈vids (xs.map f):=by
 induction xs with
 |nil=>cases a
 |cons z r c =>
  rw[List.map_cons];rcases List.mem_cons.1 a with rfl|a
  ·exact QQ.2 (.inl hi)
  ·exact QQ.2 (.inr (c a))
theorem Z4z {xs:List X} {y:X} (a:y∈xs) {t:Nat} (c:t∈Z0S [y]):t∈Z0S xs:=by
 induction xs with
 |nil=>cases a
 |cons z r d =>
  rcases List.mem_cons.1 a with rfl|a
  ·exact ZS.2 (.inl c)
  ·exact ZS.2 (.inr (d a))
theorem HasB.congr {o:SOp} (hh:HasB P b o s e) (j: ∀ t∈o.tmps,lk s.tm t=lk s'.tm t) (f: ∀ i∈e.rd,lk s.ob i=lk s'.ob i):HasB P b o s' e:=by
 cases o with
 |a dst g op xs =>
  obtain⟨h1,h2,z⟩:=hh;have hx:=Z3E (s:=s) (s':=s') (xs:=xs) λt h=>j t (by simp[SOp.tmps,h]);rw[h1] at f;refine⟨?_,h2,?_⟩
  ·rw[h1,<- hx];exact (Z96 f).symm
  ·rw[<- hx];exact Z9T z f
 |st g sz x y =>
  have hx:=Qq (s:=s) (s':=s') (x:=x) λt h=>j t (by simp only[SOp.tmps,List.mem_append];exact .inl (.inl (ZS.2 (.inl h))));have l:=Qq (s:=s) (s':=s') (x:=y) λt h=>j t (by simp only[SOp.tmps,List.mem_append];exact .inl (.inl (ZS.2 (.inr h))));have L:sz.at s'=sz.at s:=by
   cases sz with
   |c _=>rfl
   |m _=>rfl
   |k kd q =>
    have B:=Qq (s:=s) (s':=s') (x:=q) λt h=>j t (by simp only[SOp.tmps,List.mem_append];exact .inr h);simp only[SK.at,B]
   |cp dst n =>
    have B:=j dst (by simp only[SOp.tmps,List.mem_append];exact .inr (by simp[SK.tmps]));simp only[SK.at,B]
  simp only[HasB] at hh ⊢;rw[<- hx,<- l,L];split at hh
  ·rename_i N O id ob E;have d:id∈e.rd:=by rw[hh.2];simp
   rw[Z8E E (f id d)];exact hh
  ·exact hh.elim
 |app dst g fz sz R x y =>
  have hx:=Qq (s:=s) (s':=s') (x:=x) λt h=>j t (by simp only[SOp.tmps,List.mem_append];exact .inl (ZS.2 (.inl h)));have l:=Qq (s:=s) (s':=s') (x:=y) λt h=>j t (by simp only[SOp.tmps,List.mem_append];exact .inl (ZS.2 (.inr h)));simp only[HasB] at hh ⊢;rw[<- hx,<- l];split at hh
  ·rename_i ys _ C;obtain⟨h1,h2⟩:=hh;have d: ∀ i∈vids [s.get y],i∈e.rd:=λi hi=>by
    split at h2
    ·rw[h2.2];exact hi
    ·split at h2
     ·rw[h2.2.2.2];exact List.mem_cons_of_mem _ hi
     ·exact h2.elim
    ·exact h2.elim
   rw[<- Z5v (obs:=lk s.ob) λi hi=>f i (d i hi),C];refine⟨h1,?_⟩;split at h2
   ·exact h2
   ·rename_i id J;split at h2
    ·rename_i H M Q es hl;have hid:id∈e.rd:=by rw[h2.2.2.2];simp
     rw[<- f id hid,hl];exact h2
    ·exact h2.elim
   ·exact h2.elim
  ·exact hh.elim
 |cd dst g x xs =>
  obtain⟨nm,r,ob',base,h1,h2,z,I,A,G⟩:=hh;have hx:=Qq (s:=s) (s':=s') (x:=x) λt h=>j t (by simp only[SOp.tmps,List.mem_append];exact .inl (ZS.2 (.inl h)));have v: ∀ x∈xs,s.get x=s'.get x:=λy l=>Qq λt h=>j t (by
   simp only[SOp.tmps,List.mem_append];exact .inl (ZS.2 (.inr (Z4z l h))))
  have d:e.rd=nm++vids (xs.map s.get):=by rw[G]
  have u:xs.map s.get=xs.map s'.get:=List.map_congr_left v;have p:(xs.map λy=>dva (s.get x) (lk s.ob) (s.get y))=xs.map λy=>dva (s.get x) (lk s'.ob) (s'.get y):=by
   refine List.map_congr_left λy l=>?_;rw[<- v y l];refine Z52 λi hi=>f i ?_;rw[d];exact List.mem_append_right _ (Z6l l hi)
  refine⟨nm,r,ob',base,h1,λi hi=>?_,z,?_,?_⟩
  ·rw[<- f i (by rw[d];exact List.mem_append_left _ hi)];exact h2 i hi
  ·rw[<- hx,<- p,<- Z1t (ob:=s.ob) λi hi=>f i (by rw[d];exact List.mem_append_left _ hi)];exact I
  ·rw[<- u];exact⟨A,G⟩
end has
end Go.Sx
