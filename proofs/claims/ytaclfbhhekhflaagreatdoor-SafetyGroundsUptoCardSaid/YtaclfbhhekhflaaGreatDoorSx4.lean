/- Own work: a layer over the kit: plain data,a walk over it,its soundness. -/
import Derived.Test.YtaclfbhhekhflaaGreatDoorSx3
set_option linter.all false
namespace Go.Sx
open Go.RowKit
variable [Globs] [Codes]
section
variable {P:Program} {F:Fence} {n:Nat}
theorem func_inv {φ:Mem} {h:Nat->Value} {v:Value} {f:Fn} {a c:List D} (r:RV φ h v (.func f a c)): ∃ va vc:Array Value,v=.func f va vc/\va.size=a.length/\vc.size=c.length ∧
  (∀ j d,a[j]? = some d->RV φ h (va.getD j Go.undef) d)/\ ∀ j d,c[j]? = some d->RV φ h (vc.getD j Go.undef) d:=by
 cases r with
 |pure r=>cases r
 |func _ vf vc _ _ hf hc h1 h2=>exact⟨vf,vc,rfl,hf,hc,h1,h2⟩
theorem Zi {f:FuncId} {va vc vs:Array Value} {w:World} (hp:ZC P f=true):(Z3b (.func (.func f) va vc) vs).run P w=.ok (.enter f (va++vs++vc)) w:=by
 obtain⟨fn,hf,a,c⟩:=Z1t hp;simp only[Z3b,Deferred.ofValue,invoke,Sem.run_bind,Sem.run_pure,Result.andThen_ok,callFunc,run_program,hf,c,a,Bool.false_eq_true,if_false]
theorem Z6D [CodesOf P] (hF:Fence.Open F) {cx:Cx} (hgl:GlobC cx.φ0 cx.w0 cx.Z) (hro:InRound F cx) {ds:List Deferred} {ps:Array Tmp} {hi:Hints} {g:Operand} {ca C:Code} {g':X} {a b:SC} (hg:Q3 g=some g') (ha:Zt P cx.N hi ca=some a) (E:Zt P cx.N hi C=some b)
  {Q:Exit->St->Prop} {s:St} {φ:Mem} {h:Nat->Value} {tmps:Array Value} {w:World} (hm:Mod cx s φ h tmps w) (hs:sw P cx.bs (.rangeF cx.N g' ps a b) Q s) :
  (Code.rangeFunc g ps ca C).wpIn F n P (PostM cx ds Q) ⟨tmps,ds⟩ w:=by
 obtain⟨nm,R,hnd,hin,⟨f,fa,fc,hgf,hpf⟩,W,hK⟩:=hs;generalize M:s.nx cx.bs=m at *
 have h3:cx.bs<=m:=by rw[<- M];exact Nat.le_max_left _ _
 have T:s.top<=m:=by rw[<- M];exact Nat.le_max_right _ _
 have h4:Env.top s.tm<=m:=Nat.le_trans (Nat.le_max_left _ _) T;have h6:Obs.top s.ob<=m:=Nat.le_trans (Nat.le_max_right _ _) T;refine wpIn_rangeFunc λfn hfn=>?_
 -- the I is laid
 have lay: ∃ (l:Nat) (q:List Nat) (J:World) (r0:Loop),(q.Nodup/\ ∀ b∈q,cx.kp b=none/\cx.w0.heap.size<=b)/\(Instr.enterLoop fn tmps ps ca C F.round).run P w=.ok (l,q.map mkd) J/\Mod (cx.more q) s φ h tmps J ∧
   Mod (cx.more q) ⟨s.tm,(m,recd P .ready none cx.N ps a b s.tm)::s.ob⟩ φ (updH h m (.pointer (some ⟨l,0,none⟩))) tmps J:=by
  have hct: ∀ t d,lk s.tm t=some d->D.men m d=false:=λt d y=>D.top_men m d (Env.top_get h4 y);have hco: ∀ t o,lk s.ob t=some o->Ob.men m o=false:=λt o ho=>(Obs.top_men h6 ho).2;have u: ∀ {cx2:Cx} {V:World} {r0:Loop},cx2.bs=cx.bs->Mod cx2 s φ h tmps V->r0.state=.ready->r0.pending=none->r0.params=ps->r0.assign=ca->r0.body=C->r0.tmps=tmps →
    Mod cx2 ⟨s.tm,(m,recd P .ready none cx.N ps a b s.tm)::s.ob⟩ φ (updH h m (.pointer (some ⟨V.heap.size,0,none⟩))) tmps (V.alloc (.loop r0)):=λ{cx2 V r0} hbs hm2 q1 q2 q3 q4 q5 U=>by
   refine hm2.newOb (by rw[hbs];exact h3) hct hco rfl ((Below.refl _ V).alloc (Nat.le_refl _) _) ?_;refine⟨V.heap.size,(s.tm.map (·.1)).map λt=>tmps.getD t Go.undef,.loop r0,rfl,Nat.le_refl _,World.alloc_heap_new V _,⟨⟨_,rfl⟩,r0,rfl,q1,q2,q3,?_,?_,?_,by rw[U]⟩,by simp,λj d y=>?_,λoff=>?_⟩
   ·rw[q4];exact (CodesOf.ci (P:=P) _ _ _).2 ⟨hi,ha⟩
   ·rw[q5];exact (CodesOf.ci (P:=P) _ _ _).2 ⟨hi,E⟩
   ·rw[U];exact hm.size
   ·simp only[List.getElem?_map] at y;cases x:s.tm[j]? with
    |none=>rw[x] at y;cases y
    |some p =>
     rw[x] at y;simp only[Option.map_some,Option.some.injEq] at y;subst y;simp only[List.map_map,List.getD,List.getElem?_map,x,Option.map_some,Option.getD_some,Function.comp];have:RV φ h (tmps.getD p.1 Go.undef) ((lk s.tm p.1).getD .undef):=by
      cases hl:lk s.tm p.1 with
      |none=>exact .undef _
      |some d=>exact hm.tm p.1 d hl
     exact this.under (get?_lk_top h4 p.1) λi hi=>Zd _ _ (by omega)
   ·cases x:φ V.heap.size off with
    |none=>rfl
    |some v=>exact absurd (Sub.lt hm2.mem x) (by omega)
  cases hr:F.round with
  |none =>
   have H:=hm.mark;refine⟨w.heap.size+1,[w.heap.size],_,{state:=.ready,pending:=none,fn,tmps,params:=ps,assign:=ca,body:=C,defers:=w.heap.size},⟨by simp,?_⟩,run_enterLoop_outer _ _ _ _ _,?_,?_⟩
   ·intro b E;simp only[List.mem_singleton] at E;subst E;refine⟨?_,hm.grow⟩;cases x:cx.kp w.heap.size with
    |none=>rfl
    |some o=>exact absurd (Array.getElem?_eq_some_iff.1 (hm.kept _ o x).1).1 (by omega)
   ·have E:=(Below.refl _ (w.alloc (.deferred (some [])))).alloc (Nat.le_refl _) (.loop {state:=.ready,pending:=none,fn,tmps,params:=ps,assign:=ca,body:=C,defers:=w.heap.size});exact H.grown E (λ_ _ _ h=>h) (λb o v hv=>by rw[E.cell (p:=⟨b,o,none⟩) (Sub.lt H.mem hv)];exact H.mem b o v hv) (λ_ _ _ h h'=>by rw[h] at h';cases h')
   ·have:=u (cx2:=cx.more [w.heap.size]) (r0:={state:=.ready,pending:=none,fn,tmps,params:=ps,assign:=ca,body:=C,defers:=w.heap.size}) rfl H rfl rfl rfl rfl rfl rfl;rw[World.size_alloc] at this;exact this
  |some l0 =>
   obtain⟨r,hkr⟩:=hro l0 hr;have hl0:=(hm.kept l0 _ hkr).1;refine⟨w.heap.size,[],w.alloc (.loop {state:=.ready,pending:=none,fn,tmps,params:=ps,assign:=ca,body:=C,defers:=r.defers}),{state:=.ready,pending:=none,fn,tmps,params:=ps,assign:=ca,body:=C,defers:=r.defers},⟨by simp,by simp⟩,?_,?_,?_⟩
   ·unfold Instr.enterLoop;simp only[Sem.run_bind,run_getLoop hl0,Result.andThen,Sem.run_pure,run_newObj_alloc,List.map_nil]
   ·rw[Cx.more_nil];have E:=(Below.refl _ w).alloc (Nat.le_refl _) (.loop {state:=.ready,pending:=none,fn,tmps,params:=ps,assign:=ca,body:=C,defers:=r.defers});exact hm.grown E (λ_ _ _ h=>h) (λb o v hv=>by rw[E.cell (p:=⟨b,o,none⟩) (Sub.lt hm.mem hv)];exact hm.mem b o v hv) (λ_ _ _ h h'=>by rw[h] at h';cases h')
   ·rw[Cx.more_nil];exact u rfl hm rfl rfl rfl rfl rfl rfl
 obtain⟨l,q,J,r0,L,G,hm0,hm1⟩:=lay
 -- the value that is called
 have z:GlobC (cx.more q).φ0 (cx.more q).w0 (cx.more q).Z:=hgl;have hgv:=hm0.get z (ds:=ds) hg;rw[hgf] at hgv;obtain⟨va,vc,hve,_,_,_,_⟩:=func_inv hgv;have hlink:=Zi (P:=P) (va:=va) (vc:=vc) (vs:=#[.func (.yield l) #[] #[]]) (w:=J) hpf;have htop1:St.top ⟨s.tm,(m,recd P .ready none cx.N ps a b s.tm)::s.ob⟩<=m+1:=by
  simp only[St.top,Obs.top]
  have:=ZfR (P:=P) (st:=.ready) (pend:=none) (N:=cx.N) (ps:=ps) (a:=a) (b:=b) h4;omega
 have hgv2:RV φ (updH h m (.pointer (some ⟨l,0,none⟩))) (Act.eval ⟨tmps,ds⟩ g) (s.get g'):=by
  have:=hm0.get z (ds:=ds) hg;refine this.under (n:=m) ?_ (λi hi=>Zd _ _ (by omega));cases g' with
  |t t=>exact get?_lk_top h4 t
  |c d =>
   cases g with
   |tmp t=>cases hg
   |const v=>cases hg;exact Zbb v m
   |func f=>cases hg;simp[St.get,D.top,D.topL]
   |global g =>
    cases hg;simp only[St.get,glx];cases x:Globs.G g<;>exact Nat.zero_le _
 have hyl:RV φ (updH h m (.pointer (some ⟨l,0,none⟩))) (.func (.yield l) #[] #[]) (.yld m):=.yld m l (Zr _ _ _);have B:=W F hF (n-1) φ _ J (Act.eval ⟨tmps,ds⟩ g) #[.func (.yield l) #[] #[]] (hm1.loc (hm1.glob z) hnd) (Z1r hgv2) ⟨Z1r hyl,trivial⟩;rw[hve] at B;rw[hlink] at B;refine⟨l,q.map mkd,J,{target:=.fn (.func f) vc,args:=va++ #[.func (.yield l) #[] #[]]},J,f,va++ #[.func (.yield l) #[] #[]]++vc,J,G,?_,?_,?_,?_,?_⟩
 ·have e:(rangeCall g l).args.map (Act.eval ⟨tmps,ds⟩)=#[.func (.yield l) #[] #[]]:=by simp[rangeCall,Act.eval]
  simp only[resolve];rw[e];simp only[hve,Deferred.ofValue];exact Sem.run_pure _ _ _
 ·intro f' _;exact hF.fn f'
 ·obtain⟨fn',hf',hb',hn'⟩:=Z1t hpf;simp only[invoke,Sem.run_bind,Sem.run_pure,Result.andThen_ok,callFunc,run_program,hf',hn',hb',Bool.false_eq_true,if_false]
 ·intro y;rw[hF.depth] at y;cases y
 ·refine CallsIn.mono B ?_;rintro e w3 ⟨r,ob',φ',h',hend,hR,haft⟩;obtain⟨U,_⟩:=hm1.back (base:=m+1) (by show cx.bs<=m+1;omega) htop1 hnd hin haft;rcases hend with⟨v,rfl,hrv⟩|⟨v,rfl,rfl⟩
  case inr =>
   rcases hK _ ob' hR with⟨v',he,x⟩|⟨hf,_⟩
   ·cases he;refine⟨q,L,rfl,_,φ',_,x,U.weaken (λ_ _ h=>h) λi o hi=>?_⟩;simp only[Zy] at hi;split at hi
    ·cases hi
    ·exact hi
   ·cases hf
  obtain⟨st,pend,ps',asg,body,N',keys,dd,hl',hst,hQ⟩: ∃ st pend ps' asg body N' keys dd,lk (St.back ⟨s.tm,(m,recd P .ready none cx.N ps a b s.tm)::s.ob⟩ (m+1) nm ob').ob m=some (.gen (.loop st pend ps' asg body N' keys) dd)/\st≠ .busy/\_:=by
   rcases hK r ob' hR with⟨v',he,_⟩|⟨_,h⟩
   ·subst he;exact hrv.notPan.elim
   ·exact h
  have hob:=U.ob m _ hl';have Y:hbak (updH h m (.pointer (some ⟨l,0,none⟩))) h' (m+1) m=.pointer (some ⟨l,0,none⟩):=by
   simp only[hbak];rw[if_neg (by omega)];exact Zr _ _ _
  rw[Y] at hob;obtain⟨b0,vals,o,hb0,hown,A,hgis,_,_,hnone⟩:=hob;cases hb0;obtain⟨_,r3,rfl,hst3,hpe3,_⟩:=hgis;have hrunl:=run_endLoop (P:=P) A (by rw[hst3];exact hst);refine⟨pend,_,by rw[<- hpe3];exact hrunl,?_⟩;generalize hS:St.back ⟨s.tm,(m,recd P .ready none cx.N ps a b s.tm)::s.ob⟩ (m+1) nm ob'=S at *
  have hStm:S.tm=s.tm:=by rw[<- hS];rfl
  -- the I is let go
  have O: ∀ i o,lk (Z8 m S.ob) i=some o->lk S.ob i=some o/\i≠m:=λi o ho=>by
   rw[Zy] at ho;split at ho
   ·cases ho
   ·grind
  have hmw:Mod (cx.more q) ⟨s.tm,Z8 m S.ob⟩ φ' (hbak (updH h m (.pointer (some ⟨l,0,none⟩))) h' (m+1)) tmps w3:=U.weaken (λ_ _ h=>by rw[hStm];exact h) λi o hi=>(O i o hi).1;have hlt:=(Array.getElem?_eq_some_iff.1 A).1;have hmf:Mod (cx.more q) ⟨s.tm,Z8 m S.ob⟩ φ' (hbak (updH h m (.pointer (some ⟨l,0,none⟩))) h' (m+1)) tmps (w3.putObj l (.loop {r3 with state:=.exhausted})):=by
   refine hmw.world hown (λi hi he=>?_) (ZqA U (by rw[hl'];rfl) (by rw[Y];rfl)) rfl rfl rfl World.putObj_size (λk hk=>World.putObj_heap_other hk) (λb o v hv=>?_)
   ·obtain⟨o,ho⟩:=Option.isSome_iff_exists.1 hi;obtain⟨h1,h2⟩:=O i o ho;exact h2 (U.sep i m l (by rw[h1];rfl) (by rw[hl'];rfl) he (by rw[Y];rfl))
   ·have hbl:b≠l:=λe=>by rw[e,hnone] at hv;cases hv
    rw[World.cell?_of_block (w:=w3) (a:=⟨b,o,none⟩) (World.putObj_heap_other hbl)];exact hmw.mem b o v hv
  have fin: ∀ e,Q e ⟨s.tm,Z8 m S.ob⟩->PostM cx ds Q e ⟨tmps,q.map mkd++ds⟩ (w3.putObj l (.loop {r3 with state:=.exhausted})):=λe x=>⟨q,L,rfl,_,φ',(hbak (updH h m (.pointer (some ⟨l,0,none⟩))) h' (m+1)),x,hmf⟩;split at hQ
  ·grind
  ·exact wpIn_ret (fin .ret hQ)
  ·exact wpIn_exit (fin (.exit _) hQ)
  ·exact hQ.elim
end
end Go.Sx
namespace Go.Sx
open Go.RowKit
variable [Globs] [Codes]
/- STEPS THAT MAY PANIC. -/
section
variable {P:Program} {F:Fence} {n:Nat} {cx:Cx} {s:St} {φ:Mem} {h:Nat->Value} {tmps:Array Value} {w:World}
theorem Z7t (hm:Mod cx s φ h tmps w) {ds:List Deferred} (dst:Option Nat) (a: ∀ d,dst=some d->d<cx.N):Mod cx (s.put dst .nov) φ h (Act.put ⟨tmps,ds⟩ dst Go.undef).tmps w:=by
 cases dst with
 |none=>exact hm
 |some t =>
  have:=hm.astep (dst:=t) (id:=cx.bs) (d:=.nov) (nb:=none) (v:=Go.undef) (hv:=Go.undef) ⟨Below.refl _ _,λ_ _ _ h=>h,hm.mem,(λ_ _ _ h h'=>by rw[h] at h';cases h'),.tuple #[] [] rfl (by simp),(λ_ h=>by cases h)⟩ (a t rfl) (Nat.le_refl _)
   (λh=>absurd rfl h) (λh=>absurd rfl h) (λh=>absurd rfl h)
  exact this.weaken (λi d hi=>by simp only[St.put,ZE] at hi;exact hi) (λi o hi=>hi)
theorem Z1V (hm:Mod cx s φ h tmps w) {ops:Array Oper} {o:Oper} {g:Option (Nat × Bool)} (d:Z0K ops o=some g) {body skip:Prop} (a:gud g s body skip) :
  (Region.wanted o (yielded ops tmps)=true/\body)\/(Region.wanted o (yielded ops tmps)=false/\skip):=by
 unfold Z0K at d;cases c:o.guard with
 |none =>
  rw[c] at d;cases d;exact .inl ⟨by simp[Region.wanted,c],a⟩
 |some x =>
  obtain⟨j,q⟩:=x;rw[c] at d;simp only[] at d;cases k:(ops[j]?).bind (·.dst) with
  |none=>rw[k] at d;cases d
  |some t =>
   rw[k] at d;cases d;simp only[gud] at a;split at a
   ·rename_i b m;have hv:tmps.getD t Go.undef=.bool b:=(hm.tm t _ m).bool_inv;have r:tmps[t]? = some (.bool b):=by
     cases i:tmps[t]? with
     |none=>simp[Array.getD_eq_getD_getElem?,i,Go.undef] at hv
     |some v=>simp[Array.getD_eq_getD_getElem?,i] at hv;rw[hv]
    have l:yielded ops tmps j=some b:=by simp[yielded,k,r]
    split at a
    ·rename_i f;exact .inl ⟨by simp[Region.wanted,c,l,f],a⟩
    ·rename_i f;exact .inr ⟨by simp[Region.wanted,c,l,f],a⟩
   ·rename_i m;obtain⟨vs,hv,u,_⟩:=(hm.tm t _ m).tuple_inv;have p:tmps.getD t Go.undef=.tuple #[]:=by
     grind
    have l:yielded ops tmps j=none:=by
     cases i:tmps[t]? with
     |none=>simp[yielded,k,i]
     |some v =>
      have:v=.tuple #[]:=by simpa [Array.getD_eq_getD_getElem?,i] using p
      simp[yielded,k,i,this]
    exact .inr ⟨by simp[Region.wanted,c,l],a⟩
   ·exact a.elim
theorem Z74 {fz:Bool} {o:Oper} {xs:List Operand} (hc:Z4d P fz o=some (.pnk,xs)): ∃ x,o.op=.panic x/\xs=[x]:=by
 have key: ∀ {a:Option (AOp × List Operand)},a=some (.pnk,xs)-> ∀ {b:AOp} {ys:List Operand},a=some (b,ys)->b=.pnk:=λh1 _ _ h2=>by rw[h1] at h2;cases h2;rfl
 unfold Z4d at hc;split at hc;all_goals try (cases hc;done)
 all_goals try (rename_i x c;cases hc;exact⟨x,c,rfl⟩)
 all_goals first
  |(unfold Z2s at hc;repeat' split at hc)|(repeat' split at hc)
 all_goals try (cases hc;done)
 all_goals try (unfold Z2s at *;repeat' split at *)
 all_goals try (simp_all;done)
theorem Z1Q (q:Fence.Open F) {fz:Bool} {ops:Array Oper} {o:Oper} {so:SOp} {Kn:St->Prop} {Kp:Value->St->Prop} {Q:Exit->Act->World->Prop} {ds:List Deferred} {bt:Nat->Bool} {bs:Nat} (E:cx.bs<=bs) (m:GlobC cx.φ0 cx.w0 cx.Z) (hc:QL P bt fz ops o=some so)
  (S: ∀ d,o.dst=some d->d<cx.N) (hm:Mod cx s φ h tmps w) (k:stpX P bs so s Kn Kp) (hp: ∀ v s' φ' h' w',Kp v s'->Mod cx s' φ' h' tmps w'->Q (pnc v) ⟨tmps,ds⟩ w') :
  if Region.wanted o (yielded ops tmps) then o.wpIn F n P ⟨tmps,ds⟩ w (Z0B cx ds Kn) Q
  else (∀ f,o.about P w (Act.eval ⟨tmps,ds⟩)=some f->F.fn f)/\Z0B cx ds Kn (Act.put ⟨tmps,ds⟩ o.dst Go.undef) w:=by
 cases so with
 |st g sz x y=>exact Q9 q E m hc S hm k
 |app dst g fz sz e x y=>exact Q9 q E m hc S hm k
 |a dst g op xs =>
  by_cases hq:dst=none/\op=.pnk/\ ∃ x,xs=[x]
  ·obtain⟨rfl,rfl,x,rfl⟩:=hq;unfold QL at hc;cases H:Z0K ops o with
   |none=>rw[H] at hc;cases hc
   |some B =>
   rw[H] at hc;have other:(match Z4d P fz o with
     |some (op,xs)=>(xs.mapM Q3).map λxs=>SOp.a o.dst B op xs
     |none=>none)=some (.a none g .pnk [x])->if Region.wanted o (yielded ops tmps) then o.wpIn F n P ⟨tmps,ds⟩ w (Z0B cx ds Kn) Q
     else (∀ f,o.about P w (Act.eval ⟨tmps,ds⟩)=some f->F.fn f)/\Z0B cx ds Kn (Act.put ⟨tmps,ds⟩ o.dst Go.undef) w:=by
    intro hc;split at hc
    ·rename_i op ys hca;cases p:ys.mapM Q3 with
     |none=>rw[p] at hc;cases hc
     |some zs =>
      rw[p] at hc;simp only[Option.map_some,Option.some.injEq,SOp.a.injEq] at hc;obtain⟨z,rfl,rfl,rfl⟩:=hc;obtain⟨x0,V,rfl⟩:=Z74 hca;have hx:Q3 x0=some x:=by
       simp only[List.mapM_cons,List.mapM_nil,Option.bind_eq_bind,Option.bind_eq_some_iff,Option.pure_def,Option.some.injEq] at p;obtain⟨y,h1,_,rfl,h2⟩:=p;cases h2;exact h1
      rcases Z1V hm H k with⟨M,t,u,hsx,hk⟩|⟨M,hk⟩
      ·rw[if_pos M];have hv:=hm.get m (ds:=ds) hx;rw[hsx] at hv;have hv:=hv.raw_inv;refine⟨λf _=>q.fn f,?_⟩;rw[Oper.semAt_eq _ _ _ (by rw[V];intro c h;cases h)];have A:(execOp (Act.eval ⟨tmps,ds⟩) o).run P w=.halt (.panic (.iface t u)) w:=by
        simp only[execOp,V,hv];rfl
       rw[A,Oper.uponIn_panic];exact hp _ _ _ _ _ hk hm
      ·rw[if_neg (by rw[M];simp)];exact⟨λf _=>q.fn f,by cases o.dst<;>rfl,s,φ,h,hk,by rw[z];exact hm⟩
    ·cases hc
   simp only[] at hc;split at hc
   ·grind
   ·grind
   ·grind
   ·grind
   ·grind
   ·grind
   ·exact other hc
  ·refine Q9 q E m hc S hm ?_;cases dst with
   |some d=>exact k
   |none=>cases op<;>first|exact k|(cases xs with
     |nil=>exact k
     |cons x r=>cases r with
      |nil=>exact absurd ⟨rfl,rfl,x,rfl⟩ hq
      |cons _ _=>exact k)
 |cd dst g x xs =>
  unfold QL at hc;cases H:Z0K ops o with
  |none=>rw[H] at hc;cases hc
  |some B =>
  rw[H] at hc;have other:(match Z4d P fz o with
     |some (op,xs)=>(xs.mapM Q3).map λxs=>SOp.a o.dst B op xs
     |none=>none)=some (.cd dst g x xs)->False:=by
   intro hc;split at hc
   ·simp_all
   ·cases hc
  simp only[] at hc;split at hc
  ·grind
  ·grind
  ·grind
  ·grind
  ·grind
  ·rename_i c _ _ V;split at hc
   ·rename_i N X hcd;split at hc
    ·rename_i x' xs' hx p;cases hc;have G: ∃ B,c.callee=.value B/\N=B/\X=c.args.toList:=by
      grind [Q9,Option.some.injEq,Z74,Option.bind_eq_bind,Option.bind_eq_some_iff,Option.pure_def,Z1V,QL,Z0K,Z4d,Q3,Z0B,hx,ZdY,Z3b,D,RVL]
     obtain⟨B,hg',rfl,rfl⟩:=G;rcases Z1V hm H k with⟨M,hb⟩|⟨M,hk⟩
     ·rw[if_pos M];obtain⟨nm,R,base,U,hin,hb1,Y,O,hK⟩:=hb;have A:(execOp (Act.eval ⟨tmps,ds⟩) o).run P w=(Z3b (Act.eval ⟨tmps,ds⟩ N) (c.args.map (Act.eval ⟨tmps,ds⟩))).run P w:=by
       simp only[execOp,V,resolve,hg',Z3b]
      have C: ∀ cd:D,RVL φ h (c.args.map (Act.eval ⟨tmps,ds⟩)).toList (xs.map λy=>dva cd (lk s.ob) (s.get y)):=by
       intro cd
       have:=hm.gets m (ds:=ds) p;rw[Array.toList_map];exact Z8D (own:=cx.own) (λi ob hi=>hm.ob i ob hi) this
      have j:=O F q n φ (hcal h nm) w _ _ (hm.loc (hm.glob m) U) (Z1r (hm.get m (ds:=ds) hx)) (Z8C (C _));rw[<- A] at j;refine⟨λf _=>q.fn f,?_⟩;rw[Oper.semAt_eq _ _ _ (by rw[V];intro c h;cases h)];have fin: ∀ e w',Post (ZT s.ob (idx · nm) 0 nm) φ (hcal h nm) w R e w'->(∃ v,e=.returned v/\Z0B cx ds Kn (Act.put ⟨tmps,ds⟩ o.dst v) w')\/ ∃ v,e=.panicked [{v,recovered:=false}]/\Q (pnc v) ⟨tmps,ds⟩ w':=by
       rintro e w' ⟨r,ob',φ',h',T,hR,ha⟩;obtain⟨q6,q5⟩:=hm.back (base:=base) (by omega) Y U hin ha;rcases T with⟨v,rfl,W⟩|⟨v,rfl,rfl⟩
       ·refine .inl ⟨v,rfl,by cases o.dst<;>rfl,_,φ',hbak h h' base,((hK r ob' hR).resolve_right ?_).2,?_⟩
        ·rintro⟨v',rfl,_⟩;exact W.notPan
        ·cases z:o.dst with
         |none=>exact q6
         |some t=>exact (q6.setTmp (S t z) (q5 v r W)).weaken (λi d hi=>by simp only[St.put,ZE] at hi;exact hi) (λi o hi=>hi)
       ·refine .inr ⟨v,rfl,?_⟩;rcases hK _ ob' hR with⟨hf,_⟩|⟨v',he,hk⟩
        ·cases hf
        ·grind
      unfold DynOut at j;split at j
      ·rename_i f a w1 L;rw[L,Oper.uponIn_enter];refine⟨(λh=>by rw[q.depth] at h;cases h),CallsIn.mono (q.lessCall j) ?_⟩;intro e w' J;rcases fin e w' J with⟨v,rfl,I⟩|⟨v,rfl,I⟩
       ·exact I
       ·exact I
      ·rename_i l f a asg body w1 L;rw[L,Oper.uponIn_round];refine⟨(λh=>by rw[q.depth] at h;cases h),RoundIn.mono (q.lessRound j) ?_⟩;intro e w' J;rcases fin e w' J with⟨v,rfl,I⟩|⟨v,rfl,I⟩
       ·exact I
       ·exact I
      ·exact j.elim
     ·rw[if_neg (by rw[M];simp)];exact⟨λf _=>q.fn f,by cases o.dst<;>rfl,_,φ,h,hk,Z7t hm (ds:=ds) o.dst S⟩
    ·cases hc
   ·grind
  ·grind
end
end Go.Sx
namespace Go.Sx
open Go.RowKit
open Go.ChangeMaps (setBlock)
variable [Globs] [Codes]
/- PIECES WITH A RULE OF THEIR OWN. -/
section
variable {P:Program} {F:Fence} {n:Nat}
theorem Z1P {cx:Cx} {ds:List Deferred} {bs:Nat} (k:cx.bs<=bs) (p:GlobC cx.φ0 cx.w0 cx.Z) (u:Fence.Open F) {bt fz:Nat->Bool} {ops:Array Oper} {K:St->Prop} {Y:Exit->Act->World->Prop} {rest:List Oper}
  (i: ∀ (s:St) (φ:Mem) (h:Nat->Value) (tmps:Array Value) (w:World),Mod cx s φ h tmps w->K s->wpListIn F n P ops Y rest ⟨tmps,ds⟩ w) (l:List Oper) :
  ∀ (c:List SOp),l.mapM (λo=>QL P bt (fz (o.dst.getD 0)) ops o)=some c->(∀ o∈l,∀ d,o.dst=some d->d<cx.N) →
  ∀ (s:St) (φ:Mem) (h:Nat->Value) (tmps:Array Value) (w:World),Mod cx s φ h tmps w->stps P bs c s K->wpListIn F n P ops Y (l++rest) ⟨tmps,ds⟩ w:=by
 induction l with
 |nil =>
  intro c hc _ s φ h tmps w hm j;simp at hc;subst hc;exact i s φ h tmps w hm j
 |cons o l x =>
  intro c hc t s φ h tmps w hm j;simp only[List.mapM_cons,Option.bind_eq_bind,Option.bind_eq_some_iff,Option.pure_def,Option.some.injEq] at hc;obtain⟨so,h1,g,h2,rfl⟩:=hc;have hs:=Q9 (ds:=ds) (n:=n) (Q:=Y) u k p h1 (t o (by simp)) hm j;have f: ∀ a w',Z0B cx ds (λs'=>stps P bs g s' K) a w'->wpListIn F n P ops Y (l++rest) a w':=by
   rintro⟨tm,df⟩ w' ⟨m,s',φ',h',hk,q⟩;cases m;exact x g h2 (λo v=>t o (List.mem_cons_of_mem _ v)) s' φ' h' tm w' q hk
  rw[List.cons_append];unfold wpListIn;split at hs
  ·rename_i r;rw[if_pos r];exact Oper.wpIn_mono f hs
  ·rename_i r;rw[if_neg r];exact⟨hs.1,f _ _ hs.2⟩
theorem Zat {cx:Cx} {ds:List Deferred} {bs:Nat} (f:cx.bs<=bs) (g:GlobC cx.φ0 cx.w0 cx.Z) (i:Fence.Open F) {bt fz:Nat->Bool} {ops:Array Oper} {K:St->Prop} {Q:Exit->St->Prop} {rest:List Oper}
  (c: ∀ (s:St) (φ:Mem) (h:Nat->Value) (tmps:Array Value) (w:World),Mod cx s φ h tmps w->K s->wpListIn F n P ops (PostM cx ds Q) rest ⟨tmps,ds⟩ w) (l:List Oper) :
  ∀ (a:List SOp),l.mapM (λo=>QL P bt (fz (o.dst.getD 0)) ops o)=some a->(∀ o∈l,∀ d,o.dst=some d->d<cx.N) →
  ∀ (s:St) (φ:Mem) (h:Nat->Value) (tmps:Array Value) (w:World),Mod cx s φ h tmps w->stps P bs a s K->wpListIn F n P ops (PostM cx ds Q) (l++rest) ⟨tmps,ds⟩ w :=
 Z1P f g i c l
theorem Z2Y {cx:Cx} {ds:List Deferred} {bs:Nat} (k:cx.bs<=bs) (p:GlobC cx.φ0 cx.w0 cx.Z) (t:Fence.Open F) {bt fz:Nat->Bool} {ops:Array Oper} {Q:Exit->St->Prop} (l:List Oper) :
  ∀ (c:List SOp),l.mapM (λo=>QL P bt (fz (o.dst.getD 0)) ops o)=some c->(∀ o∈l,∀ d,o.dst=some d->d<cx.N) →
  ∀ (s:St) (φ:Mem) (h:Nat->Value) (tmps:Array Value) (w:World),Mod cx s φ h tmps w->Z2E P bs c s (Q .normal) (λv s'=>Q (pnc v) s')->wpListIn F n P ops (PostM cx ds Q) l ⟨tmps,ds⟩ w:=by
 induction l with
 |nil =>
  intro c hc _ s φ h tmps w hm j;simp at hc;subst hc;exact PostM.of j hm
 |cons o l x =>
  intro c hc r s φ h tmps w hm j;simp only[List.mapM_cons,Option.bind_eq_bind,Option.bind_eq_some_iff,Option.pure_def,Option.some.injEq] at hc;obtain⟨so,h1,g,h2,rfl⟩:=hc;have hs:=Z1Q (ds:=ds) (n:=n) (Q:=PostM cx ds Q) t k p h1 (r o (by simp)) hm j (λv s' φ' h' w' hk i=>PostM.of hk i);have f: ∀ a w',Z0B cx ds (λs'=>Z2E P bs g s' (Q .normal) (λv s'=>Q (pnc v) s')) a w'->wpListIn F n P ops (PostM cx ds Q) l a w':=by
   rintro⟨tm,df⟩ w' ⟨m,s',φ',h',hk,i⟩;cases m;exact x g h2 (λo u=>r o (List.mem_cons_of_mem _ u)) s' φ' h' tm w' i hk
  unfold wpListIn;split at hs
  ·rename_i q;rw[if_pos q];exact Oper.wpIn_mono f hs
  ·rename_i q;rw[if_neg q];exact⟨hs.1,f _ _ hs.2⟩
theorem QZ {o:Oper} (h:o.guard=none) (y:Nat->Option Bool):Region.wanted o y=true:=by
 unfold Region.wanted;rw[h]
theorem Z58 (i:Fence.Open F) {o:Oper} {a:Act} {w w':World} {v:Value} {next:Act->World->Prop} {Q:Exit->Act->World->Prop} (g: ∀ c,o.op≠ .defer c)
  (j:(execOp a.eval o).run P w=.ok (.value v) w') (d:next (a.put o.dst v) w'):o.wpIn F n P a w next Q:=by
 refine⟨λf _=>i.fn f,?_⟩;rw[Oper.semAt_eq _ _ _ g,j];exact d
theorem Zcs (hF:Fence.Open F) {cx:Cx} (O:GlobC cx.φ0 cx.w0 cx.Z) {ds:List Deferred} {ops:Array Oper} {dst b:Nat} {t kt et:TypeId} {x:Operand} {x':X} {o:Oper} {Q:Exit->St->Prop} (L:cx.bs<=b) (ho:o.op=.range t x) (B:o.dst=some dst) (hg:o.guard=none)
  (ht:P.underlying t=some (.map kt et)) (hx:Q3 x=some x') (hd:dst<cx.N) (s:St) (φ:Mem) (h:Nat->Value) (tmps:Array Value) (w:World) (hm:Mod cx s φ h tmps w)
  (hs: ∃ a ks ds,s.get x'= .map a/\lk s.ob a=some (.gen (.mapC ks ds) [])/\s.clean (b+dst)=true/\a≠b+dst/\ ∀ (l:List Nat) (cl:Nat),l.length=ks.length->l.Nodup->(∀ x∈l,x<cl) →
   Q .normal (St.put2 ⟨s.tm,(a,.gen (.mapB ks ds l cl) [])::Z8 a s.ob⟩ dst (b+dst) (.ptr (b+dst) 0) (.gen (.iter l [] cl) [.map a]))):wpListIn F n P ops (PostM cx ds Q) [o] ⟨tmps,ds⟩ w:=by
 have hv:=hm.get O (ds:=ds) hx;obtain⟨a,ks,r,G,hl,m,Y,hk⟩:=hs
 ·rw[G] at hv
  ·skip
   obtain⟨hvm,T⟩:=hv.map_inv;obtain⟨p,vals,oo,hblk,H,f,⟨rfl,A,⟨b',g⟩,es,clock,rfl,h1,h2,h3,h4⟩,C,hrv,k⟩:=hm.ob a _ hl;rw[g] at hblk;cases hblk;have U:(es.toList.map MapEntry.born).length=ks.length:=by
    have:=congrArg List.length h1;simpa using this
   have E: ∀ y∈es.toList.map MapEntry.born,y<clock:=by
    intro y hy;obtain⟨e,M,rfl⟩:=List.mem_map.1 hy;exact h4 e (by simpa using M)
   have S:=hk _ clock U h3 E
   -- the map,its z marks told
   have V:=hm.turn (w':=w) (λ_ _=>rfl) rfl rfl rfl (Nat.le_refl _) hl (by rw[g];rfl) k (o':=.gen (.mapB ks r (es.toList.map MapEntry.born) clock) [])
    ⟨p,[],_,by rw[g];rfl,H,f,⟨rfl,A,⟨p,g⟩,es,rfl,h1,h2,rfl,h3,E⟩,C,hrv,k⟩
   have hbm:p<w.heap.size:=(Array.getElem?_eq_some_iff.1 f).1;have I:(execOp (Act.eval ⟨tmps,ds⟩) o).run P w=.ok (.value (.pointer (some ⟨w.heap.size,0,none⟩))) (w.alloc (.mapIter (some p) clock #[] clock)):=by
    simp[execOp,ho,hvm,g,Instr.range,run_underlying ht,MapKept.run_getObj_map f,Result.andThen]
   have q:St.clean (b+dst) ⟨s.tm,(a,.gen (.mapB ks r (es.toList.map MapEntry.born) clock) [])::s.ob⟩=true:=by
    have N:Ob.men (b+dst) (.gen (.mapB ks r (es.toList.map MapEntry.born) clock) [])=false:=by
     have:=St.clean_ob (i:=b+dst) m hl;exact this
    simp only[St.clean,Bool.and_eq_true] at m ⊢;refine⟨m.1,?_⟩;simp only[List.all_cons,Bool.and_eq_true];exact⟨by rw[N];rfl,m.2⟩
   have u:AStep φ h w (b+dst) (.ptr (b+dst) 0) (some (.gen (.iter (es.toList.map MapEntry.born) [] clock) [.map a])) (.pointer (some ⟨w.heap.size,0,none⟩)) φ (.pointer (some ⟨w.heap.size,0,none⟩)) (w.alloc (.mapIter (some p) clock #[] clock)):=by
    refine⟨(Below.refl _ w).alloc (Nat.le_refl _) _,λ_ _ _ h=>h,Sub.alloc hm.mem _,(λ_ _ _ h h'=>by rw[h] at h';cases h'),.ptr _ _ w.heap.size (Zr _ _ _),λob M=>?_⟩;cases M;refine⟨w.heap.size,[.map (some p)],_,rfl,Nat.le_refl _,heap_alloc_new w _,⟨⟨_,rfl⟩,p,rfl,rfl,by simp⟩,rfl,λj d R=>?_,λoff=>?_⟩
    ·cases j with
     |zero =>
      simp at R;subst R;have e:updH h (b+dst) (.pointer (some ⟨w.heap.size,0,none⟩)) a=.map (some p):=by rw[Zd _ _ Y,g]
      have:=RV.map (φ:=φ) (h:=updH h (b+dst) (.pointer (some ⟨w.heap.size,0,none⟩))) a (by rw[e];rfl);rw[e] at this;simpa using this
     |succ j=>simp at R
    ·cases hb:φ w.heap.size off with
     |none=>rfl
     |some v=>exact absurd (Sub.lt hm.mem hb) (by omega)
   have W:=V.astep u hd (Nat.le_trans L (Nat.le_add_right _ _)) (λ_ _ _ h=>St.clean_tm q h) (λ_ _ _ h=>St.clean_ob q h) (λ_=>rfl);unfold wpListIn;rw[if_pos (QZ hg _)];refine Z58 hF (by rw[ho];intro c h;cases h) I ?_;rw[B];refine PostM.of S (W.weaken (λi d hi=>?_) (λi o hi=>?_))
   ·simp only[St.put2,ZE] at hi;exact hi
   ·simp only[St.put2,ZE] at hi;simp only[St.add,lk] at hi ⊢;split at hi
    ·rename_i e;rw[if_pos e];exact hi
    ·rename_i e;rw[if_neg e];split at hi
     ·rename_i J;rw[if_pos J];exact hi
     ·rename_i J;rw[if_neg J];rw[Zy,if_neg J] at hi;exact hi
theorem ZcP {l:List Nat} (c:l.Nodup) {i j:Nat} (hi:i<l.length) (a:j<l.length) (h:l.getD i 0=l.getD j 0):i=j:=by grind [List.getElem?_eq_getElem,List.getElem_inj]
theorem ZcL (hF:Fence.Open F) {cx:Cx} (hgl:GlobC cx.φ0 cx.w0 cx.Z) {ds:List Deferred} {ops:Array Oper} {b:Nat} {it:Operand} {it':X} {t1 t2:Nat} {o1 o2:Oper} {Q:Exit->St->Prop} (h1:o1.op=.next it false) (h2:o2.op=.extract (.tmp t1) 0) (hd1:o1.dst=some t1) (hd2:o2.dst=some t2)
  (hg1:o1.guard=none) (hg2:o2.guard=none) (hne:t1≠t2) (T:t1<cx.N) (hN2:t2<cx.N) (hx:Q3 it=some it') (s:St) (φ:Mem) (h:Nat->Value) (tmps:Array Value) (w:World) (hm:Mod cx s φ h tmps w)
  (hs:spS P b (.nxt it' t1 t2) Q s):wpListIn F n P ops (PostM cx ds Q) [o1,o2] ⟨tmps,ds⟩ w:=by
 simp only[spS] at hs;have hv:=hm.get hgl (ds:=ds) hx;obtain⟨id,q,ix,a,N,ks,gds,hid,hl,hlm,hidm,hK1,hK2⟩:=hs
 ·rw[hid] at hv
  ·skip
   ·skip
    obtain⟨O,hh,hvx⟩:=hv.ptr_inv;obtain⟨bi,vals,oo,hblk,hown,u,⟨⟨b',hb'⟩,H,rfl,rfl,W⟩,Y,hrv,z⟩:=hm.ob id _ hl;rw[hh] at hblk;cases hblk;obtain⟨hmv,hml⟩:=(hrv 0 _ rfl).map_inv;have y:h N=.map (some H):=by simpa using hmv.symm
    obtain⟨bm2,vals2,oo2,r,M,m,⟨rfl,U,hmp,es,rfl,e1,e2,e3,hnd,hlt⟩,I,hrv2,p⟩:=hm.ob N _ hlm;rw[y] at r;cases r;have hll:es.size=q.length:=by rw[<- e3];simp
    have g: ∀ (i:Nat) (hi:i<es.size),q.getD i 0=es[i].born:=λi hi=>by
     rw[<- e3];have:es.toList[i]? = some es[i]:=by simp[hi]
     simp[List.getD,this]
    -- the two G,once the first is known
    have fin: ∀ (C:World) (R:Bool) (S:Array Value) (s1:St),(execOp (Act.eval ⟨tmps,ds⟩) o1).run P w=.ok (.value (.tuple S)) C->S[0]? = some (.bool R)->Mod cx s1 φ h tmps C →
      Q .normal ((s1.put (some t1) .undef).put (some t2) (.bool R))->wpListIn F n P ops (PostM cx ds Q) [o1,o2] ⟨tmps,ds⟩ w:=by
     intro C R S s1 f htv J hq;unfold wpListIn;rw[if_pos (QZ hg1 _)];refine Z58 hF (by rw[h1];intro c h;cases h) f ?_;rw[hd1];unfold wpListIn;rw[if_pos (QZ hg2 _)];have hsz:=hm.size;refine Z58 (v:=.bool R) (w':=C) hF (by rw[h2];intro c h;cases h) ?_ ?_
     ·have:(Act.put ⟨tmps,ds⟩ (some t1) (.tuple S)).eval (.tmp t1)=.tuple S:=by
       simp[Act.put,Act.eval,Array.getD_eq_getD_getElem?,Array.getElem?_setIfInBounds,hsz,T]
      simp only[execOp,h2,this,Instr.extract,htv];rfl
     ·rw[hd2];have hm2:=(J.setTmp (d:=.undef) (v:=.tuple S) T (.undef _)).setTmp (d:=.bool R) (v:=.bool R) hN2 (Qn _);refine PostM.of hq (hm2.weaken (λi d hi=>?_) (λi o hi=>?_))
      ·by_cases ha:i=t2
       ·simp only[St.put,lk,if_pos ha] at hi ⊢;exact hi
       ·simp only[St.put,lk,if_neg ha,Zy] at hi ⊢;by_cases hb:i=t1
        ·simpa only[if_pos hb] using hi
        ·simp only[if_neg hb,Zy] at hi ⊢;exact hi
      ·exact hi
    have A: ∀ i,i<es.size->(((ix.map λi=>q.getD i 0).toArray.contains (q.getD i 0)=true) ↔ i∈ix):=λi hi=>by
     simp only[Array.contains_eq_any_beq,List.any_toArray,List.any_map,List.any_eq_true];constructor
     ·rintro⟨j,B,he⟩;have t:q.getD i 0=q.getD j 0:=by simpa using he
      have:=ZcP hnd (by omega) (W j B) t;subst this;exact B
     ·intro B;exact⟨i,B,by simp⟩
    rcases run_next_at (P:=P) w o1.type O H a a _ es a u m (λx hx=>hlt _ (by rw[<- e3];exact List.mem_map.2 ⟨x,hx,rfl⟩)) (Nat.le_refl _) with⟨h0,f⟩|⟨e,he,C,hw1,f⟩
    ·refine fin w false #[.bool false] _ (by simp[execOp,h1,hvx,f]) rfl ?_ (hK1 λi hi=>?_)
     ·have hlv:es.toList.map MapEntry.born=q:=e3;refine (hm.turn (w':=w) (λ_ _=>rfl) rfl rfl rfl (Nat.le_refl _) hlm (by rw[y];rfl) p (o':=.gen (.mapC ks gds) [])
       ⟨H,[],_,by rw[y];rfl,M,m,⟨rfl,U,hmp,es,a,rfl,e1,e2,by rw[hlv];exact hnd,λx hx=>hlt _ (by rw[<- hlv];exact List.mem_map.2 ⟨x,by simpa using hx,rfl⟩)⟩,I,hrv2,p⟩).weaken (λ_ _ h=>h) (λi o hi=>?_)
      simp only[ZE] at hi;exact hi
     ·have V:i<es.size:=by omega
      rw[<- A i V];have hz:leftOf es (ix.map λi=>q.getD i 0).toArray=#[]:=Array.eq_empty_of_size_eq_zero h0;have L:es[i] ∉ leftOf es (ix.map λi=>q.getD i 0).toArray:=by rw[hz];simp
      unfold leftOf at L;rw[Array.mem_filter] at L;rw[g i V];cases hq:((ix.map λi=>q.getD i 0).toArray.contains es[i].born) with
      |true=>rfl
      |false=>exact absurd ⟨by simp,by rw[hq];rfl⟩ L
    ·have t:e∈leftOf es (ix.map λi=>q.getD i 0).toArray:=by simpa using he
     unfold leftOf at t;rw[Array.mem_filter] at t;obtain⟨hee,hns⟩:=t;obtain⟨i,hi,rfl⟩:=Array.getElem_of_mem hee;have E:i ∉ ix:=λhin=>by
      have:=(A i hi).2 hin;rw[g i hi] at this;rw[this] at hns;cases hns
     have J:Mod cx s φ h tmps C:=by
      rcases hw1 with rfl|rfl
      ·exact hm
      ·exact hm.drew
     have hh1:C.heap=w.heap:=by
      rcases hw1 with rfl|rfl<;>rfl
     have l:C.heap[O]? = some (.mapIter (some H) a (ix.map λi=>q.getD i 0).toArray a):=by rw[hh1];exact u
     refine fin (setBlock C O (.mapIter (some H) a ((ix.map λi=>q.getD i 0).toArray.push es[i].born) a)) true #[.bool true,es[i].key,es[i].val] _ (by simp[execOp,h1,hvx,f]) rfl ?_ (hK2 i (by omega) E);refine (J.turn (w':=setBlock C O _) (λk hk=>(MapKept.heap_set l).2 k hk) rfl rfl rfl (by simp[setBlock]) hl (by rw[hh];rfl) z (o':=.gen (.iter q (ix++[i]) a) [.map N]) ?_).weaken (λ_ _ h=>h) (λi o hi=>?_)
     ·refine⟨O,[.map (some H)],_,by rw[hh];rfl,hown,(MapKept.heap_set l).1,⟨⟨O,hh⟩,H,rfl,?_,?_⟩,Y,hrv,z⟩
      ·rw[List.map_append,<- g i hi];simp
      ·intro j B;rcases List.mem_append.1 B with B|B
       ·exact W j B
       ·simp at B;omega
     ·simp only[ZE] at hi;exact hi
theorem Zav (m:Fence.Open F) {cx:Cx} (g:GlobC cx.φ0 cx.w0 cx.Z) {ds:List Deferred} {hi:Hints} {ops:Array Oper} {k:Sp} {id:Nat} (hc:Z0T P cx.N hi ops=some k) {Q:Exit->St->Prop} {s:St} {φ:Mem} {h:Nat->Value} {tmps:Array Value} {w:World}
  (hm:Mod cx s φ h tmps w) (hs:spS P cx.bs k Q s):(Code.region id ops false).wpIn F n P (PostM cx ds Q) ⟨tmps,ds⟩ w:=by
 refine wpIn_region_list ?_;unfold Z0T at hc;split at hc
 ·rename_i dst t x ty pos aft c;split at hc
  ·rename_i J I L f C hx d;split at hc
   ·rename_i i;cases hc;obtain⟨init,j⟩: ∃ init,ops.toList=init++[⟨some dst,.range t x,ty,pos,aft,none⟩]:=by
     rcases List.eq_nil_or_concat ops.toList with h0|⟨l,a,h0⟩
     ·rw[h0] at c;cases c
     ·rw[List.concat_eq_append] at h0;rw[h0] at c;simp at c;exact⟨l,by rw[h0,c]⟩
    have q:=ZO i;rw[j] at d q ⊢;simp only[List.dropLast_concat] at d;refine Zat (Nat.le_max_left _ _) g m (λs' φ' h' tm w' r hk=>?_) init f d (λo B=>q o (by simp[B])) s φ h tmps w hm hs;exact Zcs m g (Nat.le_max_left _ _) rfl rfl rfl C hx (q ⟨some dst,.range t x,ty,pos,aft,none⟩ (by simp) dst rfl) s' φ' h' tm w' r hk
   ·cases hc
  ·cases hc
 ·split at hc
  ·rename_i t1 it G y u t2 t3 H z v d;split at hc
   ·rename_i E hit;split at hc
    ·rename_i p;cases hc;obtain⟨rfl,h1,h2,A⟩:=p;rw[d];exact ZcL m g rfl rfl rfl rfl rfl rfl h1 h2 A hit s φ h tmps w hm hs
    ·cases hc
   ·cases hc
  ·split at hc
   ·split at hc
    ·split at hc
     ·cases hc;exact hs.elim
     ·cases hc
    ·cases hc
   ·split at hc
    ·split at hc
     ·split at hc
      ·cases hc;exact hs.elim
      ·cases hc
     ·cases hc
    ·split at hc
     ·split at hc
      ·rename_i f d;split at hc
       ·rename_i i;cases hc;exact Z2Y (Nat.le_max_left _ _) g m ops.toList f d (ZO i) s φ h tmps w hm hs
       ·cases hc
      ·cases hc
     ·cases hc
end
end Go.Sx
namespace Go.Sx
open Go.RowKit
variable [Globs] [Codes]
section
variable {P:Program} {F:Fence} {n:Nat}
theorem Z2R {N:Nat} {hi:Hints} {ops:Array Oper} {a:List SOp} (hc:Z0T P N hi ops=some (.pan a)) :
  ∃ bt fz:Nat->Bool,ops.toList.mapM (λo=>QL P bt (fz (o.dst.getD 0)) ops o)=some a/\QJ N ops=true:=by
 unfold Z0T at hc;split at hc
 ·grind
 ·split at hc
  ·grind
  ·split at hc
   ·grind
   ·split at hc
    ·grind
    ·split at hc
     ·split at hc
      ·rename_i f c;split at hc
       ·rename_i d;cases hc;exact⟨_,_,c,d⟩
       ·cases hc
      ·cases hc
     ·cases hc
theorem Z0e [CodesOf P] (Z3:DrawSound P) (W:Fence.Open F) {hi:Hints} {N bs:Nat} (c:Code): ∀ (sc:SC),Zt P N hi c=some sc-> ∀ (cx:Cx) (ds:List Deferred),cx.N=N->cx.bs=bs->GlobC cx.φ0 cx.w0 cx.Z->InRound F cx →
  ∀ (Q:Exit->St->Prop) (s:St) (φ:Mem) (h:Nat->Value) (tmps:Array Value) (w:World),
  Mod cx s φ h tmps w->sw P bs sc Q s->c.wpIn F n P (PostM cx ds Q) ⟨tmps,ds⟩ w:=by
 induction c with
 |skip =>
  intro sc hc cx ds u f d l Q s φ h tmps w hm hs;cases hc;exact wpIn_skip (PostM.of hs hm)
 |ret =>
  intro sc hc cx ds u f d l Q s φ h tmps w hm hs;cases hc;exact wpIn_ret (PostM.of hs hm)
 |exit id =>
  intro sc hc cx ds u f d l Q s φ h tmps w hm hs;cases hc;exact wpIn_exit (PostM.of hs hm)
 |region id ops E =>
  intro sc hc cx ds u f d l Q s φ h tmps w hm hs;subst u;subst f;simp only[Zt] at hc;split at hc
  ·rename_i k hk;cases E with
   |true =>
    simp only[if_true] at hc;obtain⟨M,rfl,h1,h2,⟨p,h3,rfl⟩|rfl⟩:=Z1b hc
    case inr =>
     obtain⟨bt,fz,z,O⟩:=Z2R hk;obtain⟨pan,qs,s',q1,q2,q3,q4⟩:=hs;exact Z3.o W (Nat.le_max_left _ _) d z O h2 h1 s φ h tmps w (Nat.le_max_right _ _) hm pan qs s' q1 q2 q3 q4
    obtain⟨bt,fz,z,O⟩:=Z2R hk;obtain⟨es,s',q1,q2,q3⟩:=hs;exact Z3.p W (Nat.le_max_left _ _) d z O h2 h1 h3 s φ h tmps w (Nat.le_max_right _ _) hm es s' _ q1 q2 (Nat.le_max_left _ _) q3
   |false =>
    simp only[Bool.false_eq_true,if_false] at hc;cases hc;exact Zav W d hk hm hs
  split at hc
  ·rename_i M hl;split at hc
   ·rename_i hd;cases E with
    |true =>
     simp only[if_true] at hc;split at hc
     ·rename_i V;cases hc;simp only[Bool.and_eq_true,decide_eq_true_eq] at V;obtain⟨es,s',q1,q2,q3⟩:=hs;exact Z3.s W (Nat.le_max_left _ _) d hl hd V.2 V.1 s φ h tmps w (Nat.le_max_right _ _) hm es s' q1 q2 q3
     ·cases hc
    |false =>
     simp only[Bool.false_eq_true,if_false] at hc;cases hc;exact wpIn_region_list (Z7B (Nat.le_max_left _ _) d W ops.toList M hl (ZO hd) s φ h tmps w hm hs)
   ·cases hc
  ·cases hc
 |seq a b B C =>
  intro sc hc cx ds u f d l Q s φ h tmps w hm hs;simp only[Zt] at hc;split at hc
  ·rename_i sa L ha X;split at hc
   ·cases hc;refine wpIn_seq (wpIn_mono (B sa ha cx ds u f d l _ s φ h tmps w hm hs) ?_);rintro e ⟨tm,df⟩ w' ⟨r,q,m,s',φ',h',y,o⟩;simp only at m;subst m;cases e<;>first|exact⟨r,q,rfl,s',φ',h',y,o⟩|exact wpIn_mono (C L X (cx.more r) (r.map mkd++ds) u f d (l.more r) Q s' φ' h' tm w' o y) (λ_ _ _ h=>h.after q)
   ·rename_i ts _;cases hc;refine wpIn_seq (wpIn_mono (B sa ha cx ds u f d l _ s φ h tmps w hm hs) ?_);rintro e ⟨tm,df⟩ w' ⟨r,q,m,s',φ',h',y,o⟩;simp only at m;subst m;cases e<;>try exact⟨r,q,rfl,s',φ',h',y,o⟩
    obtain⟨φ2,hk,U⟩:=o.canonM ts;have hq':sw P bs L Q (s'.canon bs ts):=y;subst f;exact wpIn_mono (C L X (cx.more r) (r.map mkd++ds) u rfl d (l.more r) Q _ φ2 hk tm w' U hq') (λ_ _ _ h=>h.after q)
  ·cases hc
 |cond x a b B C =>
  intro sc hc cx ds u f d l Q s φ h tmps w hm hs;simp only[Zt] at hc;split at hc
  ·rename_i x' sa L hx ha X;cases hc;simp only[sw] at hs;have hv:=hm.get d (ds:=ds) hx;split at hs
   ·rename_i t hxt;rw[hxt] at hv;refine wpIn_cond hv.bool_inv ?_;cases t
    ·grind
    ·grind
   ·exact hs.elim
  ·cases hc
 |block id c ih =>
  intro sc hc cx ds u f d l Q s φ h tmps w hm hs;simp only[Zt] at hc;cases v:Zt P N hi c with
  |none=>rw[v] at hc;cases hc
  |some L =>
   rw[v] at hc;cases hc;refine wpIn_block (wpIn_mono (ih L v cx ds u f d l _ s φ h tmps w hm hs) ?_);rintro e ⟨tm,df⟩ w' ⟨r,q,m,s',φ',h',y,o⟩;cases e<;>try exact⟨r,q,m,s',φ',h',y,o⟩
   rename_i i;simp only[QB] at y;simp only[Exit.inBlock];split at y
   ·rename_i hi;rw[if_pos hi];exact⟨r,q,m,s',φ',h',y,o⟩
   ·rename_i hi;rw[if_neg hi];exact⟨r,q,m,s',φ',h',y,o⟩
 |loop c ih =>
  intro sc hc cx ds u f d l Q s φ h tmps w hm hs;simp only[Zt] at hc;cases v:Zt P N hi c with
  |none=>rw[v] at hc;cases hc
  |some L =>
   rw[v] at hc;cases hc;obtain⟨ts,Inv,⟨k0,hk0⟩,A⟩:=hs;subst u;subst f;let I:Nat->Act->World->Prop:=λk a w'=>PostM cx ds (λ_ s'=>Inv k s') .normal a w';have hmin: ∀ a w',(∃ k,I k a w')-> ∃ k,I k a w'/\ ∀ j,I j a w'->k<=j:=λa w' ⟨k,hk⟩=>by
    induction k using Nat.strongRecOn with
    |_ k ihk =>
     by_cases T: ∃ j,j<k/\I j a w'
     ·obtain⟨j,hj,hij⟩:=T;exact ihk j hj hij
     ·exact⟨k,hk,λj hj=>Nat.le_of_not_lt λhjk=>T ⟨j,hjk,hj⟩⟩
   let μ:Act->World->Nat:=λa w'=>Classical.epsilon λk=>I k a w'/\ ∀ j,I j a w'->k<=j;have hμ: ∀ a w',(∃ k,I k a w')->I (μ a w') a w'/\ ∀ j,I j a w'->μ a w'<=j:=λa w' R=>Classical.epsilon_spec (hmin a w' R);obtain⟨_,hk,U⟩:=hm.canonM ts;refine wpIn_loop (λa w'=>∃ k,I k a w') μ ⟨k0,PostM.of (Q:=λ_ s'=>Inv k0 s') hk0 U⟩ ?_;intro a w' R;obtain⟨⟨r,q,m,s',φ',h',H,o⟩,_⟩:=hμ a w' R;generalize hkk:μ a w'=kk at H;obtain⟨tm,df⟩:=a;simp only at m;subst m;refine wpIn_mono (ih L v (cx.more r) (r.map mkd++ds) rfl rfl d (l.more r) _ s' φ' h' tm w' o (A kk s' H)) ?_;intro e a2 w2 hp;obtain⟨ms2,J,G,s2,φ2,h2,y,Y⟩:=hp.after q;cases e<;>try exact⟨ms2,J,G,s2,φ2,h2,y,Y⟩
   obtain⟨k',T,S⟩:=y;obtain⟨φ3,hk2,hmk2⟩:=Y.canonM ts;have hI:I k' a2 w2:=⟨ms2,J,G,s2.canon cx.bs ts,φ3,hk2,S,hmk2⟩;exact⟨⟨k',hI⟩,by have:=(hμ a2 w2 ⟨k',hI⟩).2 k' hI;omega⟩
 |rangeFunc g ps ca cb B C =>
  intro sc hc cx ds u f d l Q s φ h tmps w hm hs;subst u;subst f;simp only[Zt] at hc;split at hc
  ·rename_i g' a b hg ha X;cases hc;exact Z6D W d l hg ha X hm hs
  ·cases hc
 |scope=>intro sc hc;cases hc
 |label=>intro sc hc;cases hc
 |goto=>intro sc hc;cases hc
 |refuse=>intro sc hc;cases hc
end
end Go.Sx
namespace Go.Sx
open Go.RowKit
variable [Globs] [Codes]
inductive SR where
 |t (n:Nat)
 |cell (n:Nat) (agg:Bool) (sz:Nat)
 deriving Inhabited
def resD (s:St):SR->Option D
 |.t n=>lk s.tm n
 |.cell n agg sz=>match lk s.tm n with
  |some (.ptr id off)=>match lk s.ob id with
   |some (.cells cs)=>if agg then (if off+sz<=cs.length then some (.agg ((cs.drop off).take sz)) else none) else cs[off]?
   |_=>none
  |_=>none
def Z0H:List D->D
 |[d]=>d
 |ds=>.tuple ds
def Z1c (P:Program):ResultVar->Option SR
 |.tmp t=>some (.t t)
 |.cell a t=>match aggB P t,szT P t with
  |some ag,some sz=>some (.cell a ag sz)
  |_,_=>none
def ZM:Nat->List D->Env
 |_,[]=>[]
 |i,d::ds=>(i,d)::ZM (i+1) ds
theorem Z9A: ∀ (ds:List D) (i t:Nat) (d:D),lk (ZM i ds) t=some d->i<=t/\ds[t-i]? = some d
 |[],_,_,_,h=>by simp[ZM,lk] at h
 |x::ds,i,t,d,h=>by
  simp only[ZM,lk] at h;split at h
  ·rename_i a;cases h;subst a;simp
  ·have:=Z9A ds (i+1) t d h;refine⟨by omega,?_⟩;rw[show t-i=(t-(i+1))+1 by omega];simpa using this.2
theorem Z07: ∀ {ds:List D},D.cloL ds=true-> ∀ d∈ds,D.clo d=true
 |[],_,_,h=>by simp at h
 |x::ds,hc,d,h=>by
  simp only[D.cloL,Bool.and_eq_true] at hc;rcases List.mem_cons.1 h with rfl|h
  ·exact hc.1
  ·exact Z07 hc.2 d h
theorem RV.closed {φ:Mem} {h:Nat->Value} {v:Value} {d:D} (r:RV φ h v d):D.clo d=true-> ∀ h',RV φ h' v d:=by
 induction r with
 |undef v=>exactλ_ h'=>.undef v
 |pure hr=>exactλ_ h'=>.pure hr
 |agg vs cs hs _ g=>exactλhc h'=>.agg vs cs hs λj d a=>g j d a (Z07 (by simpa [D.clo] using hc) d (List.mem_of_getElem? a)) h'
 |tuple vs cs hs _ g=>exactλhc h'=>.tuple vs cs hs λj d a=>g j d a (Z07 (by simpa [D.clo] using hc) d (List.mem_of_getElem? a)) h'
 |ptr=>intro hc;simp[D.clo] at hc
 |fptr b off cs vals hm hr=>exactλ_ h'=>.fptr b off cs vals hm hr
 |vec=>intro hc;simp[D.clo] at hc
 |vptr=>intro hc;simp[D.clo] at hc
 |vwin=>intro hc;simp[D.clo] at hc
 |map=>intro hc;simp[D.clo] at hc
 |yld=>intro hc;simp[D.clo] at hc
 |func f vf vc df dc hf c _ _ i k =>
  intro hc h';simp only[D.clo,Bool.and_eq_true] at hc;exact .func f vf vc df dc hf c (λj d a=>i j d a (Z07 hc.1 d (List.mem_of_getElem? a)) h') (λj d a=>k j d a (Z07 hc.2 d (List.mem_of_getElem? a)) h')
section
variable {P:Program} {cx:Cx} {s:St} {φ:Mem} {h:Nat->Value} {tmps:Array Value} {w:World}
def resF (tmps:Array Value):ResultVar->Sem Value
 |.tmp t=>pure (tmps.getD t Go.undef)
 |.cell a t=>do loadVar t (← asAddr (tmps.getD a Go.undef))
theorem ZaN (fn:Func) (tmps:Array Value):results fn tmps=(do let vs ← fn.results.mapM (resF tmps);pure (if h:vs.size=1 then vs[0] else .tuple vs)):=by
 unfold results;congr 1
theorem ZjO (hm:Mod cx s φ h tmps w) {rv:ResultVar} {y:SR} {d:D} (hc:Z1c P rv=some y) (hr:resD s y=some d) :
  ∃ v,(resF tmps rv).run P w=.ok v w/\RV φ h v d:=by
 cases rv with
 |tmp t =>
  cases hc;simp only[resD] at hr;cases hl:lk s.tm t with
  |none=>rw[hl] at hr;cases hr
  |some x=>rw[hl] at hr;simp at hr;subst hr;exact⟨_,rfl,hm.tm t x hl⟩
 |cell a t =>
  simp only[Z1c] at hc;split at hc
  ·rename_i ag sz ha hs;cases hc;simp only[resD] at hr;split at hr
   ·rename_i id off hl;obtain⟨b,z,hv⟩:=(hm.tm a _ hl).ptr_inv;split at hr
    ·rename_i cs u;obtain⟨B,vals,e,o,_,i,m,q,_⟩:=hm.ob id _ u;rw[z] at o;cases o;have c: ∀ j,j<cs.length->w.cell? ⟨b,j,none⟩=some (vals.getD j Go.undef):=λj k=>by
      rw[cell_of_row w b j vals e _ i];simp[Array.getD_eq_getD_getElem?,m,k]
     have g:(asAddr (tmps.getD a Go.undef)).run P w=.ok ⟨b,off,none⟩ w:=by rw[hv];rfl
     cases ag with
     |true =>
      simp only[if_true] at hr;split at hr
      ·rename_i A;cases hr
       have:=Z11 (P:=P) (w:=w) (b:=b) (off:=off) ha hs ((List.range sz).map λj=>vals.getD (off+j) Go.undef) (by simp) (λj v k=>by
        rw[List.getElem?_map] at k;by_cases l:j<sz
        ·simp[l] at k;subst k;have:=c (off+j) (by omega);simpa using this
        ·rw[List.getElem?_eq_none (by simp;omega)] at k;cases k)
       refine⟨.agg ((List.range sz).map λj=>vals.getD (off+j) Go.undef).toArray,by simp only[resF,Sem.run_bind,g,Result.andThen_ok,this],Z6x (n:=sz) (f:=λj=>vals.getD (off+j) Go.undef) (by simp;omega) ?_⟩;intro j d p;rw[List.getElem?_take] at p;split at p
       ·rw[List.getElem?_drop] at p;exact q _ _ p
       ·cases p
      ·cases hr
     |false =>
      simp only[Bool.false_eq_true,if_false] at hr;cases r:cs[off]? with
      |none=>rw[r] at hr;cases hr
      |some x =>
       rw[r] at hr;simp at hr;subst hr;have l:=(List.getElem?_eq_some_iff.1 r).1;exact⟨_,by simp only[resF,Sem.run_bind,g,Result.andThen_ok,Z10 (P:=P) ha (c off l)],q _ _ r⟩
    ·cases hr
   ·cases hr
  ·cases hc
theorem Z9c (hm:Mod cx s φ h tmps w): ∀ {a:List ResultVar} {rs:List SR} {ds:List D},a.mapM (Z1c P)=some rs->rs.mapM (resD s)=some ds →
  ∃ vs,(a.mapM (resF tmps)).run P w=.ok vs w/\RVL φ h vs ds
 |[],rs,ds,hc,hr=>by
  simp at hc;subst hc;simp at hr;subst hr;exact⟨[],rfl,trivial⟩
 |rv::a,rs,ds,hc,hr=>by
  simp only[List.mapM_cons,Option.bind_eq_bind,Option.bind_eq_some_iff,Option.pure_def,Option.some.injEq] at hc;obtain⟨m,h1,l,h2,rfl⟩:=hc;simp only[List.mapM_cons,Option.bind_eq_bind,Option.bind_eq_some_iff,Option.pure_def,Option.some.injEq] at hr;obtain⟨d,j,i,k,rfl⟩:=hr;obtain⟨v,hv,f⟩:=ZjO hm h1 j;obtain⟨vs,g,c⟩:=Z9c hm h2 k;refine⟨v::vs,?_,f,c⟩;rw[List.mapM_cons,Sem.run_bind,hv,Result.andThen_ok,Sem.run_bind,g];rfl
end
structure FnC (P:Program) (f:FuncId) (N:Nat) (sc:SC) (rs:List SR):Prop where
 ex: ∃ fn c hi,P.funcs[f]? = some fn/\fn.body=some c/\fn.ntmps=N/\Zt P N hi c=some sc/\fn.results.toList.mapM (Z1c P)=some rs
section
variable {P:Program} {F:Fence} {n:Nat}
theorem Mod.unmark {cx:Cx} {s:St} {φ:Mem} {h:Nat->Value} {tmps:Array Value} {w:World} {b:Nat} {j:List Nat} (hm:Mod (cx.more (b::j)) s φ h tmps w) (q:b ∉ j) (hk:cx.kp b=none) (y:cx.w0.heap.size<=b) :
  w.heap[b]? = some (.deferred (some []))/\Mod (cx.more j) s φ h tmps (w.putObj b (.deferred none)):=by
 have m:(cx.more (b::j)).kp b=some (.deferred (some [])):=by simp[Cx.more,hk]
 obtain⟨h1,h2,u⟩:=hm.kept b _ m;have A:=(Array.getElem?_eq_some_iff.1 h1).1;refine⟨h1,?_⟩;have c: ∀ k,k≠b->(w.putObj b (.deferred none)).heap[k]? = w.heap[k]? :=λk hk=>World.putObj_heap_other hk;refine⟨hm.size,hm.tm,λg o v hv=>?_,hm.ext,hm.new,λi o t=>?_,hm.sep,hm.os,hm.tape,hm.output,by rw[World.putObj_size];exact hm.grow,hm.one,λk d l=>?_,hm.hfix,λk o z=>?_⟩
 ·have x:g≠b:=λe=>by rw[e,h2] at hv;cases hv
  rw[World.cell?_of_block (w:=w) (a:=⟨g,o,none⟩) (c g x)];exact hm.mem g o v hv
 ·exact (hm.ob i o t).keep (λ_ q=>q) (λk hk=>c k λe=>u i (by rw[t];rfl) (e ▸ hk)) (λ_ _ _ h=>h) (λ_ _ _=>rfl) (λ_ _ _ r=>r)
 ·rw[c k (λe=>by subst e;have h':k<cx.w0.heap.size:=d;omega)];exact hm.frame k d l
 ·have p:k≠b:=λe=>by
   grind [Cx.more]
  have f:(cx.more (b::j)).kp k=some o:=by
   grind [Cx.more]
  obtain⟨B,C,E⟩:=hm.kept k o f;exact⟨by rw[c k p];exact B,C,E⟩
theorem QQ {cx:Cx} {fn:Func} {tmps:Array Value} {R:Ending->World->Prop} {s:St} {φ:Mem} {h:Nat->Value} {u:FrameMode} {dd:List Deferred} (l:u≠ .run) (fin: ∀ w',Mod cx s φ h tmps w'->LeavesInM F n P fn tmps R dd u w') :
  ∀ (f:List Nat) (w:World),(f.Nodup/\ ∀ b∈f,cx.kp b=none/\cx.w0.heap.size<=b)->Mod (cx.more f) s φ h tmps w->LeavesInM F n P fn tmps R (f.map mkd++dd) u w:=by
 intro f;induction f with
 |nil =>
  intro w _ hm;rw[Cx.more_nil] at hm;exact fin w hm
 |cons b f m =>
  intro w j hm;obtain⟨a,d⟩:=j;rw[List.nodup_cons] at a;obtain⟨k,hk,g⟩:=And.intro a.1 (d b (by simp));obtain⟨h1,i⟩:=hm.unmark k hk g;exact⟨l,.inl ⟨b,_,rfl,run_takeDeferred h1,m _ ⟨a.2,λc hc=>d c (List.mem_cons_of_mem _ hc)⟩ i⟩⟩
theorem Z0g {cx:Cx} {fn:Func} {tmps:Array Value} {R:Ending->World->Prop} {s:St} {φ:Mem} {h:Nat->Value} (fin: ∀ w',Mod cx s φ h tmps w'-> ∃ v,(results fn tmps).run P w'= .ok v w'/\R (.returned v) w') (a:List Nat) (w:World) (c:a.Nodup/\ ∀ b∈a,cx.kp b=none/\cx.w0.heap.size<=b) (hm:Mod (cx.more a) s φ h tmps w):LeavesInM F n P fn tmps R (a.map mkd) .returning w:=by
 have:=QQ (F:=F) (n:=n) (P:=P) (fn:=fn) (R:=R) (u:=.returning) (dd:=[]) (by simp) fin a w c hm;simpa using this
theorem Z7J {cx:Cx} {fn:Func} {rs:List SR} (f:fn.results.toList.mapM (Z1c P)=some rs) {s':St} {φ':Mem} {h':Nat->Value} {tm:Array Value} {ds:List D} (i:rs.mapM (resD s')=some ds) {w':World} (k:Mod cx s' φ' h' tm w'): ∃ v,(results fn tm).run P w'= .ok v w'/\RV φ' h' v (Z0H ds):=by
 obtain⟨c,m,a⟩:=Z9c k f i;have g:(results fn tm).run P w'= .ok (if h:c.toArray.size=1 then c.toArray[0] else .tuple c.toArray) w':=by
  rw[ZaN,Sem.run_bind,Array.mapM_eq_mapM_toList,Sem.run_map,m];rfl
 refine⟨_,g,?_⟩
 match c,ds,a with
 |[v],[d],a=>exact a.1
 |[],[],_=>exact .tuple _ _ rfl (by simp)
 |v1::p::c,d1::d2::ds,a =>
  have l: ¬ (v1::p::c).toArray.size=1:=by simp
  rw[dif_neg l];refine .tuple _ _ (by have:=a.length;simpa using this) (λj d o=>?_)
  have:=a.get j d o;simpa [Array.getD_eq_getD_getElem?,List.getD] using this
 |[],_::_,a=>exact a.elim
 |_::_,[],a=>exact a.elim
 |[_],_::_::_,a=>exact a.2.elim
 |_::_::_,[_],a=>exact a.2.elim
def EndQ (rs:List SR) (K:St->D->Prop) (e:Exit) (s:St):Prop:=match e with
 |.normal=>∃ ds,rs.mapM (resD s)=some ds/\K s (Z0H ds)
 |.ret=>∃ ds,rs.mapM (resD s)=some ds/\K s (Z0H ds)
 |.panic c=>∃ v,c=[{v,recovered:=false}]/\K s (.pan v)
 |_=>False
theorem Zrt [CodesOf P] (Z3:DrawSound P) (G:Fence.Open F) (g:F.round=none) {f:FuncId} {sc:SC} {rs:List SR} {cx:Cx} (A:GlobC cx.φ0 cx.w0 cx.Z) (hf:FnC P f cx.N sc rs) {K:St->D->Prop} {ob:Obs} {args:List D} {φ:Mem} {h:Nat->Value} {w:World} {vs:Array Value}
  (H:vs.size<=cx.N) (hm:Mod cx ⟨ZM 0 args,ob⟩ φ h (vs++Array.replicate (cx.N-vs.size) Go.undef) w)
  (E:sw P cx.bs sc (EndQ rs K) ⟨ZM 0 args,ob⟩) :
  CallsIn F n P f vs w λe w'=>∃ r s' φ' h' a,EndV φ' h' e r/\K s' r/\Mod cx s' φ' h' a w':=by
 obtain⟨fn,c,hi,z,k,I,m,t⟩:=hf.ex;refine callsIn_of_wp_marks z k (G.fn f) ?_ g;rw[I];have B:InRound F cx:=λl hl=>by rw[g] at hl;cases hl
 refine wpIn_mono (Z0e (n:=n) Z3 G c sc m cx [] rfl rfl A B _ _ φ h _ w hm E) ?_;have fin: ∀ (s':St) (φ':Mem) (h':Nat->Value) (tm:Array Value) (ds:List D),rs.mapM (resD s')=some ds->K s' (Z0H ds)-> ∀ w',Mod cx s' φ' h' tm w' →
   ∃ v,(results fn tm).run P w'= .ok v w'/\ ∃ r s' φ' h' a,EndV φ' h' (.returned v) r/\K s' r/\Mod cx s' φ' h' a w':=by
  intro s' φ' h' tm ds i j w' d;obtain⟨v,x,C⟩:=Z7J t i d;exact⟨v,x,Z0H ds,s',φ',h',tm,.inl ⟨v,rfl,C⟩,j,d⟩
 rintro e ⟨tm,df⟩ w' ⟨y,o,q,s',φ',h',p,d⟩;simp only[List.append_nil] at q;subst q;cases e with
 |normal=>obtain⟨ds,i,j⟩:=p;exact Z0g (fin s' φ' h' tm ds i j) y w' o d
 |ret=>obtain⟨ds,i,j⟩:=p;exact Z0g (fin s' φ' h' tm ds i j) y w' o d
 |panic c =>
  obtain⟨v,rfl,j⟩:=p
  have:=QQ (F:=F) (n:=n) (P:=P) (fn:=fn) (tmps:=tm) (R:=λe w'=>∃ r s' φ' h' a,EndV φ' h' e r/\K s' r/\Mod cx s' φ' h' a w') (u:=.panicking [{v,recovered:=false}]) (dd:=[]) (by simp)
   (λw' d=>⟨_,s',φ',h',tm,.inr ⟨v,rfl,rfl⟩,j,d⟩) y w' o d
  show LeavesInM F n P fn tm _ (y.map mkd) _ w';rw[List.append_nil] at this;exact this
 |exit _=>exact p.elim
 |goto _=>exact p.elim
 |outgrown=>exact p.elim
end
def dvt (obs:Nat->Option Ob):D->D
 |.tuple ds=>.tuple (ds.map (dv obs))
 |.agg ds=>.agg (ds.map (dv obs))
 |d=>dv obs d
theorem Z4a {own:Nat->Prop} {φ:Mem} {h:Nat->Value} {w:World} {obs:Nat->Option Ob} (c: ∀ i ob,obs i=some ob->live (h i)=true->ObR own φ h w (h i) ob) {v:Value} {d:D} (r:RV φ h v d):RV φ h v (dvt obs d):=by
 unfold dvt;split
 ·obtain⟨vs,rfl,h1,h2⟩:=r.tuple_inv;refine .tuple _ _ (by simpa using h1) λj d a=>?_;rw[List.getElem?_map] at a;cases f:(_:List D)[j]? with
  |none=>rw[f] at a;cases a
  |some g=>rw[f] at a;simp at a;subst a;exact Z0O c (h2 j g f)
 ·obtain⟨vs,rfl,h1,h2⟩:=r.agg_inv;refine .agg _ _ (by simpa using h1) λj d a=>?_;rw[List.getElem?_map] at a;cases f:(_:List D)[j]? with
  |none=>rw[f] at a;cases a
  |some g=>rw[f] at a;simp at a;subst a;exact Z0O c (h2 j g f)
 ·exact Z0O c r
def St.fin (k:Nat) (s:St) (r:D):St:=canS k (newN k s.ob [(0,r)]) [(0,r)] s.ob
def RetL (k:Nat) (R:D->Obs->Prop) (s:St) (r:D):Prop:=R ((s.fin k r).get (.t 0)) (s.fin k r).ob
section
variable {P:Program} {F:Fence} {n:Nat}
theorem Mod.leave {cx:Cx} {s':St} {φ φ':Mem} {h h':Nat->Value} {c:Array Value} {w w':World} {ob:Obs} {k:Nat} (C:cx.w0=w) (g:cx.φ0=φ) (j:cx.Z=ZOf ob h) (m:cx.bs=k) (x:cx.h0=h) (q:GlobC φ w (ZOf ob h)) (B:Obs.top ob<=k)
  (hm:Mod cx s' φ' h' c w') {v:Value} {r:D} (hv:RV φ' h' v r): ∃ h2,RV φ' h2 v ((s'.fin k r).get (.t 0))/\After ob φ h w (s'.fin k r).ob φ' h2 w':=by
 subst C;subst g;subst m;let cx1:Cx:={cx with N:=1};have y:Mod cx1 ⟨[(0,r)],s'.ob⟩ φ' h' #[v] w':=by
  refine⟨rfl,λt d p=>?_,hm.mem,hm.ext,hm.new,hm.ob,hm.sep,hm.os,hm.tape,hm.output,hm.grow,hm.one,hm.frame,hm.hfix,hm.kept⟩;simp only[lk] at p;split at p
  ·simp_all
  ·cases p
 obtain⟨h2,f,z⟩:=y.canS (tm:=[(0,r)]) (λ_ _ h=>h) (nw:=newN cx.bs s'.ob [(0,r)]);have a:Mod cx1 (s'.fin cx.bs r) φ' h2 #[v] w':=z;refine⟨h2,?_,⟨⟨a.one,(a.glob (by show GlobC cx.φ0 cx.w0 cx.Z;rw[j];exact q)).sub λb l=>a.zof l,a.mem,λi o A=>?_,a.sep⟩,a.ext,λb o u h1 h2=>?_,λb h1 h2=>a.frame b h1 (by show ¬ cx.Z b;rw[j];exact h2),λi hi=>?_,a.os,a.tape,a.output,a.grow⟩⟩
 ·exact f v r hv
 ·have:=a.ob i o A;exact this.keep (λb l=>l.elim .inl λh=>.inr (by have h':cx.Z b:=h;rw[j] at h';exact h')) (λ_ _=>rfl) (λ_ _ _ h=>h) (λ_ _ _=>rfl) (λ_ _ _ r=>r)
 ·exact (a.new b o u h1 h2).elim .inl λh=>.inr (by have h':cx.Z b:=h;rw[j] at h';exact h')
 ·obtain⟨o,A⟩:=Option.isSome_iff_exists.1 hi
  have:=(Obs.top_get B A).1;rw[<- x];exact a.hfix i this
theorem Loc.enter {ob ob1:Obs} {φ:Mem} {h:Nat->Value} {w:World} (hl:Loc (λ_=>True) ob φ h w) {N k:Nat} {E:Env} {vs:Array Value} {kp:Nat->Option Obj}
  (hsz:vs.size=N) (r: ∀ t d,lk E t=some d->RV φ h (vs.getD t Go.undef) d) (a: ∀ i o,lk ob1 i=some o->lk ob i=some o)
  (l: ∀ b o,kp b=some o->w.heap[b]? = some o/\(∀ off,φ b off=none)/\ ∀ i,(lk ob1 i).isSome->blk (h i)≠some b) :
  Mod {N,w0:=w,φ0:=φ,Z:=ZOf ob h,bs:=k,h0:=h,kp} ⟨E,ob1⟩ φ h vs w:=by
 refine⟨hsz,r,hl.mem,λ_ _ _ h=>h,(λb o v h h'=>by have h2:φ b o=none:=h';rw[h] at h2;cases h2),λi o x=>?_,λi j b hi y=>?_,rfl,rfl,rfl,Nat.le_refl _,hl.one,λ_ _ _=>rfl,λ_ _=>rfl,l⟩
 ·have c:=hl.obj i o (a i o x);have: ∀ b,blk (h i)=some b->ZOf ob h b:=λb f=>⟨i,by rw[a i o x];rfl,f⟩;revert this c;generalize h i=hv;intro c u;cases o with
  |cells cs=>obtain⟨b,vals,e,rfl,_,q⟩:=c;exact⟨b,vals,e,rfl,.inr (u b rfl),q⟩
  |gen g J=>obtain⟨b,vals,o,f,_,q⟩:=c;exact⟨b,vals,o,f,.inr (u b f),q⟩
  |arr fz sz e es=>obtain⟨B,C,xs,G,H,I⟩:=c;exact⟨B,C,xs,G,H,λb f=>⟨.inr (u b f),(I b f).2⟩⟩
 ·obtain⟨z,m⟩:=Option.isSome_iff_exists.1 hi;obtain⟨A,p⟩:=Option.isSome_iff_exists.1 y;exact hl.sep i j b (by rw[a i z m];rfl) (by rw[a j A p];rfl)
theorem Z48 {φ:Mem} {h:Nat->Value} {N:Nat} {ds:List D} {vs:Array Value} (hr:RVL φ h vs.toList ds) (t:Nat) (d:D) (g:lk (ZM 0 ds) t=some d):RV φ h ((vs++Array.replicate (N-vs.size) Go.undef).getD t Go.undef) d:=by
 obtain⟨_,a⟩:=Z9A ds 0 t d g;simp only[Nat.sub_zero] at a;have c:=hr.length;have f:=(List.getElem?_eq_some_iff.1 a).1
 have:=hr.get t d a;have e:(vs++Array.replicate (N-vs.size) Go.undef).getD t Go.undef=vs.toList.getD t Go.undef:=by
  simp only[Array.getD_eq_getD_getElem?,List.getD];rw[Array.getElem?_append_left (by simpa [<- c] using f)];simp
 rw[e];exact this
theorem QY {φ:Mem} {h:Nat->Value}: ∀ {vs:List Value} {ds:List D} {c:List Value} {a:List D},RVL φ h vs ds->RVL φ h c a->RVL φ h (vs++c) (ds++a)
 |[],[],_,_,_,h2=>h2
 |_::_,_::_,_,_,h1,h2=>⟨h1.1,QY h1.2 h2⟩
 |[],_::_,_,_,h1,_=>h1.elim
 |_::_,[],_,_,h1,_=>h1.elim
theorem CallL.fn [CodesOf P] (Z3:DrawSound P) {f:FuncId} {N:Nat} {sc:SC} {rs:List SR} (hf:FnC P f N sc rs) (j:ZC P f=true) {first caps args:List D} {ob:Obs} {R:D->Obs->Prop} (k:Nat) (hk:Obs.top ob<=k)
  (u:(first++args++caps).length<=N)
  (m:sw P k sc (EndQ rs (RetL k R)) ⟨ZM 0 (first++args++caps),ob⟩) :
  CallL P (.func (.func f) first caps) args ob R:=by
 intro F y n φ h w v vs hp hv C;obtain⟨va,vc,rfl,ha,hc,z,A⟩:=func_inv hv;rw[Zi j];show CallsIn F n P f (va++vs++vc) w _;have a:RVL φ h (va++vs++vc).toList (first++args++caps):=by
  grind [func_inv,Zi,Array.toList_append,QY,ZG,Array.getD_eq_getD_getElem?,List.getD,Array.length_toList,Array.replicate,Array.size_append,RVL,ZOf,RetL]
 have hsz:(va++vs++vc).size<=N:=by
  have:=a.length;simp only[Array.length_toList] at this;omega
 refine y.calls (callsIn_wide (n:=0).1 ?_) n;have i:=hp.enter (N:=N) (k:=k) (kp:=λ_=>none) (vs:=(va++vs++vc)++Array.replicate (N-(va++vs++vc).size) Go.undef) (by rw[Array.size_append,Array.size_replicate];omega) (λt d B=>Z48 a t d B) (ob1:=ob) (λ_ _ h=>h) (λ_ _ h=>by cases h);refine CallsIn.mono (Zrt (cx:={N,w0:=w,φ0:=φ,Z:=ZOf ob h,bs:=k,h0:=h,kp:=λ_=>none}) Z3 Z2l rfl hp.glob hf (K:=RetL k R) hsz i m) ?_;rintro e w' ⟨r,s',φ',h',p,c,q,g⟩;rcases c with⟨v,rfl,l⟩|⟨v,rfl,rfl⟩
 ·obtain⟨h2,x,o⟩:=g.leave rfl rfl rfl rfl rfl hp.glob hk l;exact .ret q x o
 ·obtain⟨h2,x,o⟩:=g.leave rfl rfl rfl rfl rfl hp.glob hk (.undef Go.undef);exact⟨_,_,φ',h2,.inr ⟨v,rfl,rfl⟩,q,o⟩
theorem Loc.frz {own:Nat->Prop} {ob:Obs} {φ:Mem} {h:Nat->Value} {w:World} (hl:Loc own ob φ h w):(∀ b o v,φ b o=some v->memZ ob φ h w b o=some v)/\(∀ b o v,memZ ob φ h w b o=some v->φ b o=none->own b)/\Loc own (frzO ob) (memZ ob φ h w) h w:=by
 obtain⟨a,d,hmem,f,j⟩:=ZcK hl.mem hl.obj hl.sep;have c: ∀ b,ZOf (frzO ob) h b->ZOf ob h b:=λb ⟨i,hi,l⟩=>⟨i,by rw[Z17] at hi;cases p:lk ob i with
  |none=>rw[p] at hi;cases hi
  |some o=>rfl,l⟩
 exact⟨a,d,hl.one,⟨λg cs m=>(hl.glob.ok g cs m).mono a,λg arr hx=>⟨(hl.glob.x g arr hx).1,λk=>(hl.glob.x g arr hx).2 (c _ k)⟩,λg hx=>⟨(hl.glob.i g hx).1,λk=>(hl.glob.i g hx).2 (c _ k)⟩⟩,hmem,f,j⟩
theorem CallL.frzAll {P:Program} {d:D} {args:List D} {ob:Obs} {R:D->Obs->Prop} (hc:CallL P d args ob R):CallL P d args ob λr o=>∃ o0,o=frzO o0/\R r o0:=by
 intro F j n φ h w v vs hp hv f;refine (hc F j n φ h w v vs hp hv f).mono ?_;rintro e w' ⟨r,ob',φ',h',a,k,ha⟩;obtain⟨i,m,p⟩:=ha.loc.frz;refine⟨r,frzO ob',memZ ob' φ' h' w',h',?_,⟨ob',rfl,k⟩,⟨p,λb o v hv=>i b o v (ha.ext b o v hv),λb o v h1 h2=>?_,ha.frame,ha.hfix,ha.os,ha.tape,ha.output,ha.grow⟩⟩
 ·rcases a with⟨v,l,c⟩|h
  ·exact .inl ⟨v,l,c.mono i⟩
  ·exact .inr h
 ·cases g:φ' b o with
  |some u=>exact ha.new b o u g h2
  |none=>exact m b o v h1 g
def Zsk (r:D) (d:D) (ob:Obs):Prop :=
 (∃ id sz e es,d=.vec id/\lk ob id=some (.arr true sz e es)/\r=.own sz e es)\/(D.clo (dvt (lk ob) d)=true/\r=dvt (lk ob) d)
def RetK (r:D) (d:D) (ob:Obs):Prop :=
 (∃ id sz e es,d=.vec id/\lk (frzO ob) id=some (.arr true sz e es)/\r=.own sz e es)\/(D.clo (dvt (lk (frzO ob)) d)=true/\r=dvt (lk (frzO ob)) d)
theorem FnOK.of_call0 {f:FuncId} (C:ZC P f=true) {args:List D} {r:D} (hc:CallL P (.func (.func f) [] []) args [] (Zsk r)):FnOK P f args r:=by
 intro φ hh w vs x A y hsz l;have hl:Loc (λ_=>True) [] φ hh w:=⟨x,A.sub (λb ⟨i,hi,_⟩=>by simp[lk] at hi),y,λi o L=>by simp[lk] at L,λi j b hi=>by simp[lk] at hi⟩;have E:RVL φ hh vs.toList args:=ZG _ _ (by simpa using hsz) λj d I=>by have:=l j d I;simpa [Array.getD_eq_getD_getElem?,List.getD] using this
 have g:=hc _ Z2l 0 φ hh w (.func (.func f) #[] #[]) vs hl (.func _ _ _ _ _ rfl rfl (by simp) (by simp)) E;rw[Zi C] at g;have c:CallsIn Fence.wide 0 P f (#[]++vs++ #[]) w (Post [] φ hh w (Zsk r)):=g;simp only[Array.empty_append,Array.append_empty] at c;refine (callsIn_wide (n:=0).1 c).mono ?_;intro e w' m;obtain⟨v,d,ob',φ',h',rfl,z,hv,ha⟩:=m.dest λd ob' z=>by
  rcases z with⟨id,sz,e,es,rfl,_⟩|⟨hc,_⟩
  ·rfl
  ·cases d<;>first|rfl|(simp[dvt,dv,D.clo] at hc)
 have G: ∀ b,¬ ZOf [] hh b:=λb ⟨i,hi,_⟩=>by simp[lk] at hi
 have t:Below w.heap.size w w':=⟨ha.os,ha.tape,ha.output,ha.grow,λk hk=>ha.frame k hk (G k)⟩;refine⟨v,φ',rfl,?_,t,ha.ext,ha.loc.mem,λb o u h1 h2=>(ha.new b o u h1 h2).elim id λh=>(G b h).elim⟩;rcases z with⟨id,sz,e,es,rfl,B,rfl⟩|⟨a,rfl⟩
 ·have:=ha.loc.obj id _ B;rw[<- hv.vec_inv] at this;exact this.keep (h':=noH) (λb H=>H.elim (λh=>h) λh=>(G b h).elim) (λ_ _=>rfl) (λ_ _ _ h=>h) (λ_ _ _=>rfl) (λ_ _ J=>by cases J)
 ·have p:=Z4a (obs:=lk ob') (own:=λb=>w.heap.size<=b\/ZOf [] hh b) (λi ob hi _=>ha.loc.obj i ob hi) hv;revert p a;generalize dvt (lk ob') d=r;intro a p;have q: ∀ h2,RV φ' h2 v r:=λh2=>p.closed a h2;cases r<;>first|exact q|(simp[D.clo] at a)
theorem FnOK.of_call {f:FuncId} (a:ZC P f=true) {args:List D} {r:D} (hc:CallL P (.func (.func f) [] []) args [] (RetK r)):FnOK P f args r :=
 FnOK.of_call0 a (hc.frzAll.mono λd o ⟨o0,h1,h2⟩=>by subst h1;exact h2)
end
end Go.Sx
namespace Go.Sx
open Go.RowKit
variable [Globs] [Codes]
def putP:List (Nat × D)->Env->Env
 |[],tm=>tm
 |(t,d)::r,tm=>putP r ((t,d)::Z8 t tm)
section
variable {P:Program} {F:Fence} {n:Nat}
theorem Z7N {φ:Mem} {h:Nat->Value}: ∀ (ps:List Nat) (vs:List Value) (ds:List D) (tm:Env) (tmps:Array Value),RVL φ h vs ds->(∀ t∈ps,t<tmps.size)->(∀ t d,lk tm t=some d->RV φ h (tmps.getD t Go.undef) d) →
  ∀ t d,lk (putP (ps.zip ds) tm) t=some d->RV φ h (((ps.zip vs).foldl (λtm x=>tm.setIfInBounds x.1 x.2) tmps).getD t Go.undef) d
 |[],vs,ds,tm,tmps,_,_,a=>by simpa [putP] using a
 |p::ps,v::vs,d0::ds,tm,tmps,h1,h2,a=>by
  intro t d hl;simp only[List.zip_cons_cons,putP] at hl;simp only[List.zip_cons_cons,List.foldl_cons];refine Z7N ps vs ds _ (tmps.setIfInBounds p v) h1.2 (λt c=>by simpa using h2 t (List.mem_cons_of_mem _ c)) (λt d hl=>?_) t d hl;rw[ZE] at hl;simp only[lk] at hl;have hp:=h2 p (by simp);split at hl
  ·rename_i e;cases hl;subst e;have:(tmps.setIfInBounds t v).getD t Go.undef=v:=by simp[Array.getD,hp]
   rw[this];exact h1.1
  ·rename_i e;have:(tmps.setIfInBounds p v).getD t Go.undef=tmps.getD t Go.undef:=by simp[Array.getD_eq_getD_getElem?,Ne.symm e]
   rw[this];exact a t d hl
 |p::ps,[],[],tm,tmps,_,_,a=>by simpa [putP] using a
 |_::_,[],_::_,_,_,h1,_,_=>h1.elim
 |_::_,_::_,[],_,_,h1,_,_=>h1.elim
theorem Z2W: ∀ (l:List (Nat × Value)) (tmps:Array Value),(l.foldl (λtm x=>tm.setIfInBounds x.1 x.2) tmps).size=tmps.size:=by intro l;induction l<;>grind
def Cx.setk (cx:Cx) (l:Nat) (o:Obj):Cx:={cx with kp:=λb=>if b=l then some o else cx.kp b}
theorem Mod.setKp {cx:Cx} {s:St} {φ:Mem} {h:Nat->Value} {tmps:Array Value} {w:World} {l:Nat} {o0 o1:Obj} (hm:Mod cx s φ h tmps w) (hk:cx.kp l=some o0) (m:cx.own l):Mod (cx.setk l o1) s φ h tmps (w.putObj l o1):=by
 obtain⟨h1,h2,q⟩:=hm.kept l o0 hk;have p:=(Array.getElem?_eq_some_iff.1 h1).1;have c: ∀ k,k≠l->(w.putObj l o1).heap[k]? = w.heap[k]? :=λk hk=>World.putObj_heap_other hk;refine⟨hm.size,hm.tm,λg o v hv=>?_,hm.ext,hm.new,λi o t=>?_,hm.sep,hm.os,hm.tape,hm.output,by rw[World.putObj_size];exact hm.grow,hm.one,λk f j=>?_,hm.hfix,λk o d=>?_⟩
 ·have x:g≠l:=λe=>by rw[e,h2] at hv;cases hv
  rw[World.cell?_of_block (w:=w) (a:=⟨g,o,none⟩) (c g x)];exact hm.mem g o v hv
 ·exact (hm.ob i o t).keep (λ_ u=>u) (λk hk=>c k λe=>q i (by rw[t];rfl) (e ▸ hk)) (λ_ _ _ h=>h) (λ_ _ _=>rfl) (λ_ _ _ r=>r)
 ·rw[c k (λe=>by subst e;exact m.elim (λh=>by have h':k<cx.w0.heap.size:=f;omega) (λh=>j h))];exact hm.frame k f j
 ·simp only[Cx.setk] at d;split at d
  ·rename_i e;cases d;subst e;exact⟨World.putObj_heap_same p,h2,q⟩
  ·rename_i e;obtain⟨y,z,A⟩:=hm.kept k o d;exact⟨by rw[c k e];exact y,z,A⟩
def YRet (P:Program) (k:Nat) (R:D->Obs->Prop) (c N:Nat) (ps:Array Tmp) (a b:SC) (keys:List Nat) (ds:List D) (pend:Option Code) (s:St):Prop :=
 R (.bool pend.isNone) ((c,.gen (.loop (if pend.isNone then .ready else .done) pend ps a b N keys) ds)::(s.canon k []).ob)
theorem Zbq {t:Nat} {d:D}: ∀ {keys:List Nat} {ds:List D},lk (keys.zip ds) t=some d-> ∃ j:Nat,keys[j]? = some t/\ds[j]? = some d
 |[],_,h=>by simp[lk] at h
 |_::_,[],h=>by simp[lk] at h
 |k::keys,x::ds,h=>by
  simp only[List.zip_cons_cons,lk] at h;split at h
  ·rename_i e;cases h;exact⟨0,by simp[e],by simp⟩
  ·obtain⟨j,h1,h2⟩:=Zbq h;exact⟨j+1,by simpa using h1,by simpa using h2⟩
theorem Z79 {s:St} {k a:Nat} (h:lk s.ob a=none) (hk:a<k):lk (s.canon k []).ob a=none:=by
 cases c:lk (s.canon k []).ob a with
 |none=>rfl
 |some o =>
  exfalso;simp only[St.canon,frzT,hasF,thaw,hasS,List.any_nil,canS] at c;rw[Z08,Z5A] at c;cases h1:lk (oldO k (canG k (newN k s.ob (kept s.tm []))) s.ob) a with
  |some o' =>
   obtain⟨_,o0,h2,_⟩:=ZcG _ _ _ h1;rw[h] at h2;cases h2
  |none =>
   rw[h1] at c;simp only[Option.none_or] at c;obtain⟨i,o0,h2,f,_⟩:=ZcR _ _ _ _ c;simp only[canG] at h2;split at h2
   ·grind
   ·cases d:idx i (newN k s.ob (kept s.tm [])) with
    |none=>rw[d] at h2;cases h2
    |some q=>rw[d] at h2;simp at h2;omega
theorem CallL.yld [CodesOf P] (Z3:DrawSound P) {N:Nat} {ps:Array Tmp} {a b:SC} {keys:List Nat} {ds:List D} {c:Nat} {args:List D} {ob:Obs} {R:D->Obs->Prop} (k:Nat) (hk:Obs.top ob<=k)
  (g:lk ob c=some (.gen (.loop .ready none ps a b N keys) ds)) (hps:ps.size=args.length) (hpN: ∀ t∈ps.toList,t<N)
  (hsw:sw P k a (λe s=>match e with
   |.normal=>sw P k b (λe s'=>lk s'.ob c=none/\match e with
    |.normal=>YRet P k R c N ps a b keys ds none s'
    |.ret=>YRet P k R c N ps a b keys ds (some .ret) s'
    |.exit i=>YRet P k R c N ps a b keys ds (some (.exit i)) s'
    |_=>False) s
   |_=>False) ⟨putP (ps.toList.zip args) (keys.zip ds),Z8 c ob⟩) :
  CallL P (.yld c) args ob R:=by
 intro F hF n φ h w v vs hp hv hvs;obtain⟨l,I,rfl⟩: ∃ l,h c=.pointer (some ⟨l,0,none⟩)/\v=.func (.yield l) #[] #[]:=by
  cases hv with
  |pure r=>cases r
  |yld _ l hh=>exact⟨l,hh,rfl⟩
 have J:=hp.obj c _ g;rw[I] at J;obtain⟨b0,vals,o,hb0,hown,m,hgis,hvl,O,U⟩:=J;cases hb0;obtain⟨_,r,rfl,hst,hpe,z,hca,hcb,B,rfl⟩:=hgis;obtain⟨hia,ha⟩:=(CodesOf.ci (P:=P) _ _ _).1 hca;obtain⟨hib,L⟩:=(CodesOf.ci (P:=P) _ _ _).1 hcb;have hlt:=(Array.getElem?_eq_some_iff.1 m).1;have A:c<k:=(Obs.top_get hk g).1;have hvsz:vs.size=r.params.size:=by rw[z,hps];have:=hvs.length;simpa using this
 have hrv0: ∀ t d,lk (keys.zip ds) t=some d->RV φ h (r.tmps.getD t Go.undef) d:=λt d hl=>by
  obtain⟨j,h1,h2⟩:=Zbq hl;have h3:=O j d h2;have:(keys.map λt=>r.tmps.getD t Go.undef).getD j Go.undef=r.tmps.getD t Go.undef:=by simp[List.getD,List.getElem?_map,h1]
  rw[this] at h3;exact h3
 -- the round's frame
 have hrun:(Z3b (.func (.yield l) #[] #[]) vs).run P w=.ok (.round l r.fn ((r.params.zip vs).foldl (λtmps (t,a)=>tmps.setIfInBounds t a) r.tmps) r.assign r.body) w:=by
  simp only[Z3b,Deferred.ofValue,invoke,Sem.run_bind,Sem.run_pure,Result.andThen_ok];rw[Array.empty_append];exact run_yield m hvsz
 rw[hrun];show RoundIn F n P l r.fn _ r.assign r.body w _;refine roundIn_of_wpIn (hF.fn _) ?_;have Q:(r.params.zip vs).foldl (λtmps (t,a)=>tmps.setIfInBounds t a) r.tmps=(ps.toList.zip vs.toList).foldl (λtm x=>tm.setIfInBounds x.1 x.2) r.tmps:=by
  rw[z,<- Array.foldl_toList,Array.toList_zip]
 rw[Q];have X:((ps.toList.zip vs.toList).foldl (λtm x=>tm.setIfInBounds x.1 x.2) r.tmps).size=N:=by rw[Z2W,B]
 have hm':=hp.enter (N:=N) (k:=k) (kp:=λb=>if b=l then some (.loop r) else none) (E:=putP (ps.toList.zip args) (keys.zip ds)) (ob1:=Z8 c ob) X
  (Z7N ps.toList vs.toList args (keys.zip ds) r.tmps hvs (λt ht=>by rw[B];exact hpN t ht) hrv0)
  (λi o y=>by
   rw[Zy] at y;split at y
   ·cases y
   ·exact y)
  (λq o hq=>by
   split at hq
   ·rename_i e;cases hq;subst e;refine⟨m,U,λi hi hbi=>?_⟩;rw[Zy] at hi;split at hi
    ·cases hi
    ·rename_i hne;exact hne (hp.sep i c q hi (by rw[g];rfl) hbi (by rw[I];rfl))
   ·cases hq)
 have C:ZOf ob h l:=⟨c,by rw[g];rfl,by rw[I];rfl⟩;refine wpIn_mono (Z0e (n:=n) Z3 (hF.inRound l) r.assign a ha _ [] rfl rfl hp.glob (λl' T=>⟨r,by
  have:some l=some l':=T;cases this;simp⟩) _ _ φ h _ w hm' hsw) ?_
 rintro e a1 w1 ⟨ms1,hnd1,hdf1,s1,φ1,h1,hq1,hm1⟩;cases e<;>try exact hq1.elim
 -- the round begins
 have hk1: ∀ {cx1:Cx},cx1.kp l=some (.loop r)-> ∀ ms,(cx1.more ms).kp l=some (.loop r):=λhk ms=>by simp[Cx.more,hk]
 have M:=hk1 (cx1:={N,w0:=w,φ0:=φ,Z:=ZOf ob h,bs:=k,h0:=h,kp:=λb=>if b=l then some (.loop r) else none}) (by simp) ms1;have G:=(hm1.kept l _ M).1;refine⟨_,run_beginRound G hst,?_⟩;have hm1b:=hm1.setKp (o1:=.loop {r with state:=.busy}) M (.inr C);obtain⟨tm1,df1⟩:=a1;refine wpIn_mono (Z0e (n:=n) Z3 (hF.inRound l) r.body b L _ df1 rfl rfl hp.glob (λl' T=>⟨{r with state:=.busy},by
  have:some l=some l':=T;cases this;simp[Cx.setk]⟩) _ _ φ1 h1 tm1 _ hm1b hq1) ?_
 rintro e a2 w2 ⟨ms2,hnd2,hdf2,Y,φ2,h2,⟨hrn,hq2⟩,hm2⟩;have hk2:((Cx.setk (Cx.more {N,w0:=w,φ0:=φ,Z:=ZOf ob h,bs:=k,h0:=h,kp:=λb=>if b=l then some (.loop r) else none} ms1) l (.loop {r with state:=.busy})).more ms2).kp l=some (.loop {r with state:=.busy}):=by
  simp[Cx.more,Cx.setk]
 have H:=(hm2.kept l _ hk2).1;have fin: ∀ pend:Option Code,YRet P k R c N ps a b keys ds pend Y →
   ∃ v w',(Instr.endRound l pend).run P w2=.ok v w'/\Post ob φ h w R (.returned v) w':=by
  intro pend hy;refine⟨_,_,run_endRound pend H,?_⟩;have hm3:=hm2.setKp (o1:=.loop { {r with state:=.busy} with state:=if pend.isNone then .ready else .done,pending:=pend}) hk2 (.inr C);obtain⟨hh,_,hm4⟩:=hm3.canS (tm:=[]) (λ_ _ h=>by simp[lk] at h) (nw:=newN k Y.ob []);have hcn:canS k (newN k Y.ob []) [] Y.ob=Y.canon k []:=rfl;have f:Mod _ (Y.canon k []) φ2 hh _ _:=hm4;have p:hh c=.pointer (some ⟨l,0,none⟩):=by rw[f.hfix c A];exact I
  have hrn':=Z79 hrn A;have S:=f.kept l (.loop { {r with state:=.busy} with state:=if pend.isNone then .ready else .done,pending:=pend}) (by simp[Cx.setk]);refine .ret hy (.pure (.bool _)) ⟨⟨f.one,(f.glob hp.glob).sub (λb ⟨i,hi,L⟩=>by
   simp only[lk] at hi;split at hi
   ·rename_i e;subst e;rw[p] at L;simp only[blk,Option.some.injEq] at L;exact L ▸ .inr C
   ·exact f.zof ⟨i,hi,L⟩),f.mem,λi o y=>?_,λi j q hi hj V W=>?_⟩,f.ext,λb o u q1 q2=>(f.new b o u q1 q2),λb q1 q2=>f.frame b q1 q2,λi hi=>?_,f.os,f.tape,f.output,f.grow⟩
  ·simp only[lk] at y;split at y
   ·rename_i e;subst e;cases y;rw[p];refine⟨l,keys.map λt=>r.tmps.getD t Go.undef,_,rfl,.inr C,S.1,⟨⟨l,rfl⟩,_,rfl,rfl,rfl,z,hca,hcb,B,rfl⟩,hvl,λj d hd=>?_,λoff=>S.2.1 off⟩;have hdt:D.top d<=k:=Z3d (Obs.top_get hk g).2 (List.mem_of_getElem? hd);exact ((O j d hd).mono f.ext).under hdt λi hi=>f.hfix i hi
   ·have J:=f.ob i o y;exact J.keep (λb L=>L) (λ_ _=>rfl) (λ_ _ _ h=>h) (λ_ _ _=>rfl) (λ_ _ _ r=>r)
  ·have key: ∀ i',(lk (Y.canon k []).ob i').isSome->blk (hh i')=some q->blk (hh c)=some q->False:=λi' h1 h2 h3=>by
    rw[p] at h3;cases h3;exact S.2.2 i' h1 h2
   simp only[lk] at hi hj;by_cases e1:i=c<;>by_cases e2:j=c
   ·rw[e1,e2]
   ·rw[if_neg e2] at hj;exact (key j hj W (by rw[<- e1];exact V)).elim
   ·rw[if_neg e1] at hi;exact (key i hi V (by rw[<- e2];exact W)).elim
   ·rw[if_neg e1] at hi;rw[if_neg e2] at hj;exact f.sep i j q hi hj V W
  ·obtain⟨o,y⟩:=Option.isSome_iff_exists.1 hi;exact f.hfix i (Obs.top_get hk y).1
 cases e<;>first|exact hq2.elim|exact fin _ hq2
end
end Go.Sx
namespace Go.Sx
open Go.RowKit
variable [Globs] [Codes]
section congr
variable {P:Program} {dst:Nat} {obs obs':Nat->Option Ob} {K:D->Option Ob->Prop}
theorem Z9W {d:D} (h: ∀ i∈vids [d],obs i=obs' i):dv obs d=dv obs' d:=by grind [dv,vids,D]
theorem QF {d:D} {r:List D} {i:Nat}:i∈vids (d::r) ↔ i∈vids [d]\/i∈vids r:=by
 cases d<;>simp[vids]
theorem Z4b: ∀ {ds:List D},(∀ i∈vids ds,obs i=obs' i)->ds.map (dv obs)=ds.map (dv obs')
 |[],_=>rfl
 |d::r,h=>by
  rw[List.map_cons,List.map_cons,Z9W λi hi=>h i (QF.2 (.inl hi)),Z4b λi hi=>h i (QF.2 (.inr hi))]
theorem Z35: ∀ {ps:List (Nat × Nat)} {ds cs:List D},(∀ i∈vids ds,obs i=obs' i)->QO obs cs ps ds=QO obs' cs ps ds
 |[],[],cs,_=>rfl
 |[],_::_,cs,_=>rfl
 |_::_,[],cs,_=>rfl
 |(off,sz)::ps,d::ds,cs,h=>by
  simp only[QO];rw[Z9W (obs':=obs') λi hi=>h i (QF.2 (.inl hi))];split
  ·exact Z35 λi hi=>h i (QF.2 (.inr hi))
  ·rfl
theorem Z2d {d:D} (h: ∀ i∈vids [d],obs i=obs' i):Z03 obs d=Z03 obs' d:=by grind [Z03,vids,D]
theorem Z3D {d:D} (h: ∀ i∈vids [d],obs i=obs' i):Z4u obs d=Z4u obs' d:=by
 cases d<;>first|rfl|(rename_i id;simp only[Z4u];rw[h id (by simp[vids])])
theorem Z3B {sz:SK} {a b id:Nat} {x y:D} {o:Ob} (h:stO sz x y obs=some (a,b,id,o)) (hi:obs id=obs' id):stO sz x y obs'=some (a,b,id,o):=by grind [stO,SK,D,Ob]
theorem ZfB {P:Program} {dst sz:Nat} {lo hi:Bool} {d:D} {bs:List D} {K:D->Option Ob->Prop} (a:evl P dst (.slice sz lo hi) (d::bs) obs K) (h: ∀ i∈vids (d::bs),obs i=obs' i):evl P dst (.slice sz lo hi) (d::bs) obs' K:=by
 simp only[evl] at a ⊢;rw[<- Z2d (obs:=obs) λi hi=>h i (QF.2 (.inl hi))];cases hs:Z03 obs d with
 |some p=>rw[hs] at a;exact a
 |none =>
  rw[hs] at a;simp only at a ⊢;cases d<;>try exact a
  rename_i id;have e:=h id (by simp[vids]);cases bs with
  |nil=>exact a
  |cons b r =>
   grind
theorem Z7H {d:D} (h: ∀ i∈vids [d],obs i=obs' i):Z2H obs d=Z2H obs' d:=by grind [Z2H,vids,D]
theorem Z7S {kd:Option IntKind} {z key:D} {id:Nat} (a:evl P dst (.mlook kd z) [.map id,key] obs K) (h:obs id=obs' id):evl P dst (.mlook kd z) [.map id,key] obs' K:=by grind [evl]
theorem ZaX {sz id off:Nat} (a:evl P dst (.load true sz) [.ptr id off] obs K) (h: ∀ i∈rdA obs (.load true sz) [.ptr id off],obs i=obs' i):evl P dst (.load true sz) [.ptr id off] obs' K:=by grind [Z4b,List.mem_cons_of_mem,rdA,evl]
theorem Z6Y {op:AOp} {xs:List D} (a:evl P dst op xs obs K) (h: ∀ i∈rdA obs op xs,obs i=obs' i):evl P dst op xs obs' K:=by
 by_cases hl: ∃ sz id off,op=.load true sz/\xs=[.ptr id off]
 ·obtain⟨sz,id,off,rfl,rfl⟩:=hl;exact ZaX a h
 by_cases c: ∃ kd z id key,op=.mlook kd z/\xs=[.map id,key]
 ·obtain⟨kd,z,id,key,rfl,rfl⟩:=c;exact Z7S a (h id (by simp[rdA]))
 by_cases f: ∃ sz lo hi d bs,op=.slice sz lo hi/\xs=d::bs
 ·obtain⟨sz,lo,hi,d,bs,rfl,rfl⟩:=f;exact ZfB a h
 unfold evl at a;split at a;all_goals try exact absurd ⟨_,_,_,_,_,rfl,rfl⟩ f
 all_goals try exact absurd ⟨_,_,_,_,rfl,rfl⟩ c
 all_goals try (simp only[evl];exact a)
 all_goals try
  (
   rename_i ag sz id off;cases ag
   ·simp only[evl];rw[<- h id (by simp[rdA,pids])];exact a
   ·exact absurd ⟨sz,id,off,rfl,rfl⟩ hl)
 all_goals simp only[rdA] at h
 all_goals try simp only[evl]
 all_goals first
  |(rw[<- Z35 (obs:=obs) h];exact a)
  |(rw[<- h _ (by simp[vids])];exact a)
  |(rw[<- Z7H (obs:=obs) h];exact a)
  |(rw[<- Z2d (obs:=obs) λi hi=>h i (QF.2 (.inl hi))];exact a)
  |(rw[<- Z4b (obs:=obs) h];exact a)
  |(rw[Zb9 h];exact a)
  |exact a
theorem Z6C {op:AOp} {xs:List D} (h: ∀ i∈rdA obs op xs,obs i=obs' i):rdA obs' op xs=rdA obs op xs:=by
 by_cases hl: ∃ sz id off,op=.load true sz/\xs=[.ptr id off]
 ·grind [Z43,rdA]
 ·unfold rdA;split
  ·grind
  all_goals first
   |rfl
   |(simp only[rdA] at h;exact Z43 h)
end congr
section has
variable {P:Program} {b:Nat} {s s':St} {e:Eff}
theorem ZY {x:X} (h: ∀ t∈Z0U [x],lk s.tm t=lk s'.tm t):s.get x=s'.get x:=by grind [St.get,Z0U,X,lk]
theorem ZZ {x:X} {r:List X} {t:Nat}:t∈Z0U (x::r) ↔ t∈Z0U [x]\/t∈Z0U r:=by
 cases x<;>simp[Z0U]
theorem Z2N: ∀ {xs:List X},(∀ t∈Z0U xs,lk s.tm t=lk s'.tm t)->xs.map s.get=xs.map s'.get
 |[],_=>rfl
 |x::r,h=>by
  rw[List.map_cons,List.map_cons,ZY λt a=>h t (ZZ.2 (.inl a)),Z2N λt a=>h t (ZZ.2 (.inr a))]
theorem Zdk {g:Option (Nat × Bool)} {p q:Prop} (h: ∀ t∈Z6e g,lk s.tm t=lk s'.tm t) (a:gud g s p q):gud g s' p q:=by cases g<;>grind [gud,Z6e]
theorem Qb {g:Option (Nat × Bool)} {p q a c:Prop} (hp:p->a) (f:q->c) (d:gud g s p q):gud g s a c:=by cases g<;>grind [gud]
theorem Z70 {c:D} {obs obs':Nat->Option Ob} {d:D} (h: ∀ i∈vids [d],obs i=obs' i):dva c obs d=dva c obs' d:=by grind [dva,vids,D,Ob]
theorem Z1U {ob ob':Obs} {g:Nat->Option Nat}: ∀ {r:List Nat} {k:Nat},(∀ i∈r,lk ob i=lk ob' i)->ZT ob g k r=ZT ob' g k r
 |[],_,_=>rfl
 |i::r,k,h=>by
  simp only[ZT];rw[h i (by simp),Z1U λj a=>h j (List.mem_cons_of_mem _ a)]
theorem Z8Q {xs:List X} {y:X} (a:y∈xs) {f:X->D} {i:Nat} (hi:i∈vids [f y]):i∈vids (xs.map f):=by
 induction xs with
 |nil=>cases a
 |cons z r c =>
  rw[List.map_cons];rcases List.mem_cons.1 a with rfl|a
  ·exact QF.2 (.inl hi)
  ·exact QF.2 (.inr (c a))
theorem Z22 {xs:List X} {y:X} (c:y∈xs) {t:Nat} (a:t∈Z0U [y]):t∈Z0U xs:=by induction xs<;>grind [X,Z0U]
theorem HasB.congr {o:SOp} (hh:HasB P b o s e) (f: ∀ t∈o.tmps,lk s.tm t=lk s'.tm t) (u: ∀ i∈e.rd,lk s.ob i=lk s'.ob i):HasB P b o s' e:=by
 cases o with
 |a dst g op xs =>
  grind [Z2N,Z6C,Z6Y,ZY,Z3B,List.mem_cons_of_mem,Z3D,Z22,List.map_congr_left,hx,SOp.tmps,SK.at,SK.tmps,HasB,vids,lk,dva]
 |st g sz x y =>
  have hx:=ZY (s:=s) (s':=s') (x:=x) λt h=>f t (by simp only[SOp.tmps,List.mem_append];exact .inl (.inl (ZZ.2 (.inl h))));have j:=ZY (s:=s) (s':=s') (x:=y) λt h=>f t (by simp only[SOp.tmps,List.mem_append];exact .inl (.inl (ZZ.2 (.inr h))));have H:sz.at s'=sz.at s:=by
   cases sz with
   |c _=>rfl
   |m _=>rfl
   |k kd q =>
    have v:=ZY (s:=s) (s':=s') (x:=q) λt h=>f t (by simp only[SOp.tmps,List.mem_append];exact .inr h);simp only[SK.at,v]
   |cp dst n =>
    have v:=f dst (by simp only[SOp.tmps,List.mem_append];exact .inr (by simp[SK.tmps]));simp only[SK.at,v]
  simp only[HasB] at hh ⊢;rw[<- hx,<- j,H];split at hh
  ·rename_i I J id ob z;have d:id∈e.rd:=by rw[hh.2];simp
   rw[Z3B z (u id d)];exact hh
  ·exact hh.elim
 |app dst g fz sz L x y =>
  have hx:=ZY (s:=s) (s':=s') (x:=x) λt h=>f t (by simp only[SOp.tmps,List.mem_append];exact .inl (ZZ.2 (.inl h)));have j:=ZY (s:=s) (s':=s') (x:=y) λt h=>f t (by simp only[SOp.tmps,List.mem_append];exact .inl (ZZ.2 (.inr h)));simp only[HasB] at hh ⊢;rw[<- hx,<- j];split at hh
  ·grind [Z2N,Z6C,Z6Y,ZY,Z3B,List.mem_cons_of_mem,Z3D,Z22,List.map_congr_left,hx,SOp.tmps,SK.at,SK.tmps,HasB,vids,lk,dva]
  ·exact hh.elim
 |cd dst g x xs =>
  obtain⟨nm,r,ob',base,h1,h2,B,C,G,E⟩:=hh;have hx:=ZY (s:=s) (s':=s') (x:=x) λt h=>f t (by simp only[SOp.tmps,List.mem_append];exact .inl (ZZ.2 (.inl h)));have p: ∀ x∈xs,s.get x=s'.get x:=λy j=>ZY λt h=>f t (by
   simp only[SOp.tmps,List.mem_append];exact .inl (ZZ.2 (.inr (Z22 j h))))
  have d:e.rd=nm++vids (xs.map s.get):=by rw[E]
  have A:xs.map s.get=xs.map s'.get:=List.map_congr_left p;have l:(xs.map λy=>dva (s.get x) (lk s.ob) (s.get y))=xs.map λy=>dva (s.get x) (lk s'.ob) (s'.get y):=by
   refine List.map_congr_left λy j=>?_;rw[<- p y j];refine Z70 λi hi=>u i ?_;rw[d];exact List.mem_append_right _ (Z8Q j hi)
  refine⟨nm,r,ob',base,h1,λi hi=>?_,B,?_,?_⟩
  ·grind
  ·rw[<- hx,<- l,<- Z1U (ob:=s.ob) λi hi=>u i (by rw[d];exact List.mem_append_left _ hi)];exact C
  ·grind
end has
end Go.Sx
