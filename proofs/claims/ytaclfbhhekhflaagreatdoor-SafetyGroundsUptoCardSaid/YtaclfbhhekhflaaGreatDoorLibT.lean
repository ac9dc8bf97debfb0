/- The library's contracts for the trees. -/
import Derived.Test.YtaclfbhhekhflaaGreatDoorRun
import Derived.Test.YtaclfbhhekhflaaGreatDoorSx8
set_option linter.all false
set_option maxRecDepth 100000
noncomputable section
namespace Go.Proofs.YtaclfbhhekhflaaGreatDoor
open Go.Sx
theorem Z3:DrawSound Tryz.prog:=ZdR (by kernel_rfl)
def libT (f:FuncId) (xs:List D):Option RT :=
 if f=115 then match xs with
  |[.str s,.str t]=>some (.ok (s.length<4294967281) (.bool (Lib.contains s t)) [])
  |_=>none
 else if f=89 then match xs with
  |[.str s,.str t]=>some (.ok True (.int .i64 (Lib.compareBytes s t)) [])
  |_=>none
 else none
theorem Z1: ∀ f xs rt,libT f xs=some rt->rt.says λr _=>FnOK Tryz.prog f xs r:=by
 intro f xs rt h;unfold libT at h;split at h
 ·rename_i hf;subst hf;split at h
  ·cases h;intro hp;exact Z7Z _ _ _ (by unfold libF;rw[if_pos rfl];simp only;rw[if_pos hp])
  ·cases h
 rename_i h2;split at h
 ·rename_i hf;subst hf;split at h
  ·cases h;intro _;exact Z7Z _ _ _ (by unfold libF;rw[if_neg h2,if_pos rfl])
  ·cases h
 ·cases h
abbrev PT:=FuncId->List D->Option RT
def PT.OK (p:PT):Prop:=∀ f xs rt,p f xs=some rt->rt.says λr _=>FnOK Tryz.prog f xs r
def PT.or (p q:PT):PT:=λf xs=>match p f xs with
 |some r=>some r
 |none=>q f xs
theorem PT.or_ok {p q:PT} (hp:p.OK) (a:q.OK):(p.or q).OK:=by
 intro f xs rt h;unfold PT.or at h;split at h
 ·cases h;exact hp _ _ _ (by assumption)
 ·exact a _ _ _ h
abbrev QT:=D->List D->Obs->Option RT
def QT.OK (p:QT):Prop:=∀ d xs ob rt,p d xs ob=some rt->rt.says λr ob'=>CallL Tryz.prog d xs ob λr0 ob0=>r0=r/\ob0=ob'
def QT.or (p q:QT):QT:=λd xs ob=>match p d xs ob with
 |some r=>some r
 |none=>q d xs ob
theorem QT.or_ok {p q:QT} (hp:p.OK) (a:q.OK):(p.or q).OK:=by
 intro d xs ob rt h;unfold QT.or at h;split at h
 ·cases h;exact hp _ _ _ _ (by assumption)
 ·exact a _ _ _ _ h
def Qr:QT:=λ_ _ _=>none
theorem Z0:Qr.OK:=λ_ _ _ _ h=>by cases h
def noE:Nat->Int->List D:=λ_ _=>[]
def ctr (p:PT) (q:QT:=Qr) (e:Nat->Int->List D:=noE):Ctr:=⟨λ_=>p,λ_=>q,e⟩
theorem Z2 {p:PT} {q:QT} {e:Nat->Int->List D} (hp:p.OK) (a:q.OK):(ctr p q e).OK Tryz.prog:=⟨λ_=>hp,λ_=>a⟩
abbrev LD:=List (List D)
abbrev LU:=List UInt8
abbrev Ow (p:Prop) (t:Tr):Tr:=.owe p t
abbrev Rt (r:D) (o:Obs):Tr:=.ret r o
abbrev Jm (f:List Fr) (s:St):Tr:=.jmp f s
abbrev dL (a b:LD):D:=.slice a b
abbrev dI (n:Int):D:=.int .i64 n
abbrev dU (n:Int):D:=.int .u8 n
abbrev dS (s:LU):D:=.str s
abbrev dA (l:List D):D:=.agg l
abbrev dP (i o:Nat):D:=.ptr i o
abbrev dV (i:Nat):D:=.vec i
abbrev dB (b:Bool):D:=.bool b
abbrev dF (f:FuncId) (a c:List D):D:=.func (.func f) a c
abbrev oC (l:List D):Ob:=.cells l
abbrev oR (f:Bool) (z:Nat) (e:TypeId) (l:LD):Ob:=.arr f z e l
abbrev I8 (n:Int) (t:Tr):Tr:=.owe (-9223372036854775808<=n/\n<=9223372036854775807) t
abbrev gL (st:LoopState) (p:Option Code) (a:Array Nat) (x:SC) (i N:Nat) (k:List Nat) (d:List D):Ob:=.gen (.loop st p a (x.rngA i) (x.rngB i) N k) d
abbrev gP (tb:Ctr) (rs:List SR) (sc:SC) (a:List D):Tr:=goT Tryz.prog tb 0 (finF true 0 rs) 2000 [.sc sc] ⟨ZM 0 a,[]⟩
abbrev gC (tb:Ctr) (b:Nat) (rs:List SR) (sc:SC) (x y z:List D) (o:Obs):Tr:=goT Tryz.prog tb b (finF false b rs) 2000 [.sc sc] ⟨ZM 0 (x++y++z),o⟩
abbrev gH (tb:Ctr) (b:Nat) (u:Bool) (rs:List SR) (f:List Fr) (s:St):Tr:=goT Tryz.prog tb b (finF u b rs) 2000 f s
abbrev FK (f:FuncId) (a:List D) (r:D):Prop:=FnOK Tryz.prog f a r
abbrev CQ (f:FuncId) (a:List D) (o:Obs) (r:D) (q:Obs):Prop:=CallL Tryz.prog (.func (.func f) [] []) a o λx y=>x=r/\y=q
abbrev CF (f:FuncId) (a:List D) (o:Obs) (R:D->Obs->Prop):Prop:=CallL Tryz.prog (.func (.func f) [] []) a o R
end Go.Proofs.YtaclfbhhekhflaaGreatDoor
