/- The library's contracts for the trees. -/
import Derived.Test.YtecgehidegnmnaaGreatDoorRun
import Derived.Test.YtecgehidegnmnaaGreatDoorSx8
set_option linter.all false
set_option maxRecDepth 100000
namespace Go.Proofs.YtecgehidegnmnaaGreatDoor
open Go.Sx
theorem Z5:DrawSound Tryz.prog:=Za6 (by kernel_rfl)
def deS:List D->List UInt8
 |[.str s]=>s
 |_=>[]
def libT (f:FuncId) (xs:List D):Option RT :=
 if f=38 then match xs with
  |[.slice es ext,.str sep]=>some (.ok ((es=(es.map deS).map λt=>[.str t])/\(es.map deS).length<=140737488355328/\(Lib.join (es.map deS) sep).length<=140737488355328) (.str (Lib.join (es.map deS) sep)) [])
  |_=>none
 else if f=135 then match xs with
  |[.str s]=>some (.br (match Lib.atoiAll s with|.ok _=>true|_=>false)
    (.ok (s.length<=281474976710656) (.tuple [.int .i64 (match Lib.atoiAll s with|.ok n=>n|_=>0),.raw .nilIface]) [])
    (.ok (s.length<=281474976710656) (.tuple [.int .i64 (match Lib.atoiAll s with|.range=>Lib.atoiSat s|_=>0),.ifc]) []))
  |_=>none
 else if f=88 then match xs with
  |[.int .i64 n]=>some (.ok (-9223372036854775808<=n/\n<=9223372036854775807) (.str (Lib.itoa n)) [])
  |_=>none
 else if f=141 then match xs with
  |[.str s,.int .u8 n]=>some (.ok True (.int .i64 (Lib.indexByte s (UInt8.ofNat n.toNat))) [])
  |_=>none
 else if f=79 then match xs with
  |[.str s,.str t]=>some (.ok (s.length<4294967281) (.bool (Lib.contains s t)) [])
  |_=>none
 else if f=95 then match xs with
  |[.str s,.str t]=>some (.ok True (.int .i64 (Lib.compareBytes s t)) [])
  |_=>none
 else none
theorem Z8z: ∀ {es:List (List D)},(es=(es.map deS).map λt=>[D.str t])->strs es=some (es.map deS)
 |[],_=>rfl
 |e::es,h=>by
  simp only[List.map_cons,List.cons.injEq] at h;rw[h.1];simp only[strs];rw[Z8z h.2];simp[deS]
theorem Z3: ∀ f xs rt,libT f xs=some rt->rt.says λr _=>FnOK Tryz.prog f xs r:=by
 intro f xs rt h;unfold libT at h;split at h
 ·rename_i hf;subst hf;split at h
  ·rename_i es ext sep;cases h;intro hp;exact Z14 _ _ _ (by unfold libF;rw[if_pos rfl];simp only[Z8z hp.1];rw[if_pos hp.2])
  ·cases h
 rename_i h1;split at h
 ·rename_i hf;subst hf;split at h
  ·rename_i s;cases h;cases ha:Lib.atoiAll s<;>intro hp<;>exact Z14 _ _ _ (by unfold libF;rw[if_neg h1,if_pos rfl];simp only[ha,hp,if_true])
  ·cases h
 rename_i h2;split at h
 ·rename_i hf;subst hf;split at h
  ·cases h;intro hp;exact Z14 _ _ _ (by unfold libF;rw[if_neg h1,if_neg h2,if_pos rfl];simp only;rw[if_pos hp])
  ·cases h
 rename_i a;split at h
 ·rename_i hf;subst hf;split at h
  ·cases h;intro _;exact Z14 _ _ _ (by unfold libF;rw[if_neg h1,if_neg h2,if_neg a,if_neg (by decide),if_pos rfl])
  ·cases h
 rename_i b;split at h
 ·rename_i hf;subst hf;split at h
  ·cases h;intro hp;exact Z14 _ _ _ (by unfold libF;rw[if_neg h1,if_neg h2,if_neg a,if_neg (by decide),if_neg b,if_pos rfl];simp only;rw[if_pos hp])
  ·cases h
 rename_i c;split at h
 ·rename_i hf;subst hf;split at h
  ·cases h;intro _;exact Z14 _ _ _ (by unfold libF;rw[if_neg h1,if_neg h2,if_neg a,if_neg (by decide),if_neg b,if_neg c,if_pos rfl])
  ·cases h
 ·cases h
abbrev PT:=FuncId->List D->Option RT
def PT.OK (p:PT):Prop:=∀ f xs rt,p f xs=some rt->rt.says λr _=>FnOK Tryz.prog f xs r
def PT.or (p q:PT):PT:=λf xs=>match p f xs with
 |some r=>some r
 |none=>q f xs
abbrev QT:=D->List D->Obs->Option RT
def QT.OK (p:QT):Prop:=∀ d xs ob rt,p d xs ob=some rt->rt.says λr ob'=>CallL Tryz.prog d xs ob λr0 ob0=>r0=r/\ob0=ob'
def QT.or (p q:QT):QT:=λd xs ob=>match p d xs ob with
 |some r=>some r
 |none=>q d xs ob
theorem QT.or_ok {p q:QT} (hp:p.OK) (a:q.OK):(p.or q).OK:=by
 intro d xs ob rt h;unfold QT.or at h;split at h
 ·cases h;exact hp _ _ _ _ (by assumption)
 ·exact a _ _ _ _ h
def Z0e:QT:=λ_ _ _=>none
theorem Z8:Z0e.OK:=λ_ _ _ _ h=>by cases h
def noE:Nat->Int->List D:=λ_ _=>[]
def ctr (p:PT) (q:QT:=Z0e) (e:Nat->Int->List D:=noE):Ctr:=⟨λ_=>p,λ_=>q,e⟩
theorem Z9 {p:PT} {q:QT} {e:Nat->Int->List D} (hp:p.OK) (a:q.OK):(ctr p q e).OK Tryz.prog:=⟨λ_=>hp,λ_=>a⟩
abbrev LD:=List (List D)
abbrev LU:=List UInt8
abbrev Ow (p:Prop) (t:Tr):Tr:=.owe p t
abbrev Rt (r:D) (o:Obs):Tr:=.ret r o
abbrev Jm (f:List Fr) (s:St):Tr:=.jmp f s
abbrev dL (a b:LD):D:=.slice a b
abbrev dI (n:Int):D:=.int .i64 n
abbrev dU (n:Int):D:=.int .u8 n
abbrev dS (s:LU):D:=.str s
abbrev dA (l:List D):D:=.agg l
abbrev dP (i o:Nat):D:=.ptr i o
abbrev dV (i:Nat):D:=.vec i
abbrev dB (b:Bool):D:=.bool b
abbrev dF (f:FuncId) (a c:List D):D:=.func (.func f) a c
abbrev oC (l:List D):Ob:=.cells l
abbrev oR (f:Bool) (z:Nat) (e:TypeId) (l:LD):Ob:=.arr f z e l
abbrev I8 (n:Int) (t:Tr):Tr:=.owe (-9223372036854775808<=n/\n<=9223372036854775807) t
abbrev gL (st:LoopState) (p:Option Code) (a:Array Nat) (x:SC) (i N:Nat) (k:List Nat) (d:List D):Ob:=.gen (.loop st p a (x.rngA i) (x.rngB i) N k) d
noncomputable abbrev gP (tb:Ctr) (rs:List SR) (sc:SC) (a:List D):Tr:=goT Tryz.prog tb 0 (finF true 0 rs) 2000 [.sc sc] ⟨Zu 0 a,[]⟩
noncomputable abbrev gC (tb:Ctr) (b:Nat) (rs:List SR) (sc:SC) (x y z:List D) (o:Obs):Tr:=goT Tryz.prog tb b (finF false b rs) 2000 [.sc sc] ⟨Zu 0 (x++y++z),o⟩
noncomputable abbrev gH (tb:Ctr) (b:Nat) (u:Bool) (rs:List SR) (f:List Fr) (s:St):Tr:=goT Tryz.prog tb b (finF u b rs) 2000 f s
abbrev FK (f:FuncId) (a:List D) (r:D):Prop:=FnOK Tryz.prog f a r
abbrev CQ (f:FuncId) (a:List D) (o:Obs) (r:D) (q:Obs):Prop:=CallL Tryz.prog (.func (.func f) [] []) a o λx y=>x=r/\y=q
abbrev CF (f:FuncId) (a:List D) (o:Obs) (R:D->Obs->Prop):Prop:=CallL Tryz.prog (.func (.func f) [] []) a o R
end Go.Proofs.YtecgehidegnmnaaGreatDoor
