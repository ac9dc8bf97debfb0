/- Own work: a layer over the kit: plain data,a walk over it,its soundness. -/
import Derived.Test.YtobgkdlghljdlaaGreatDoorMtC
import Derived.Test.YtobgkdlghljdlaaGreatDoorSx8
import Derived.Test.YtobgkdlghljdlaaGreatDoorSx9
set_option linter.unusedSectionVars false
set_option linter.unusedVariables false
set_option linter.unusedSimpArgs false
set_option linter.deprecated false
set_option maxRecDepth 100000
/- Bindings: binding a name. -/
namespace Go.Proofs.YtobgkdlghljdlaaGreatDoor
open Go.Sx
abbrev zB:List D:=[.str [],.int .u8 0,.int .i64 0,.str [],.slice [] []]
abbrev nRow (es:LD):Obs:=[(0,.cells [.vec 1]),(1,.arr false 5 45 es)]
theorem bdL_take (l:List Bd) (i:Nat):bdL (l.take i)=(bdL l).take i:=by simp[bdL,List.map_take]
theorem bdL_drop (l:List Bd) (i:Nat):bdL (l.drop i)=(bdL l).drop i:=by simp[bdL,List.map_drop]
theorem bdL_app (l m:List Bd):bdL (l++m)=bdL l++bdL m:=by simp[bdL]
theorem cpy_ins {es:LD} {c z:List D} {i:Nat} (hi:i<=es.length):cpyL ((cpyL (List.replicate (es.length+1) z) 0 (es.take i)).set i c) (i+1) (es.drop i)=es.take i++c::es.drop i:=by
 have e1:cpyL (List.replicate (es.length+1) z) 0 (es.take i)=es.take i++z::List.replicate (es.length-i) z:=by
  have h1:(es.take i).take (es.length+1)=es.take i:=List.take_of_length_le (by rw[List.length_take]; omega)
  have h2:es.length+1-i=(es.length-i)+1:=by omega
  unfold cpyL
  rw[List.length_replicate,Nat.sub_zero,h1,List.length_take,Nat.min_eq_left hi,List.drop_replicate,Nat.zero_add,h2]
  rfl
 have hlen:(es.take i).length=i:=by rw[List.length_take]; omega
 rw[e1]
 have e2:(es.take i++z::List.replicate (es.length-i) z).set i c=es.take i++c::List.replicate (es.length-i) z:=by
  rw[List.set_append_right _ _ (by omega),hlen,Nat.sub_self]; rfl
 rw[e2]
 unfold cpyL
 have e3:(es.take i++c::List.replicate (es.length-i) z).take (i+1)=es.take i++[c]:=by
  rw[List.take_append,hlen,List.take_of_length_le (show (es.take i).length<=i+1 by omega)]
  have:i+1-i=1:=by omega
  rw[this]; rfl
 have e4:(es.take i++c::List.replicate (es.length-i) z).length=es.length+1:=by
  rw[List.length_append,hlen,List.length_cons,List.length_replicate]; omega
 have e5:(es.drop i).take (es.length+1-(i+1))=es.drop i:=List.take_of_length_le (by rw[List.length_drop]; omega)
 have e6:(es.take i++c::List.replicate (es.length-i) z).drop (i+1+(es.drop i).length)=[]:=List.drop_eq_nil_of_le (by rw[e4,List.length_drop]; omega)
 rw[e3,e4,e5,e6]
 simp
theorem bdL_all (l:List Bd): ∀ q∈bdL l,q.length=5:=fun q hq=>by
 obtain⟨x,_,rfl⟩:=List.mem_map.1 hq
 exact bdc_len x
theorem bdL_allLen (l:List Bd):allLen 5 (bdL l++[]):=by
 rw[List.append_nil]
 intro q hq
 exact bdL_all l q hq
def bndD:Option (List Bd)->D
 | some c=> .tuple [.slice (bdL c) [],.bool true]
 | none=> .tuple [.slice [] [],.bool false]
end Go.Proofs.YtobgkdlghljdlaaGreatDoor
/- match.state: trees. -/
namespace Go.Proofs.YtobgkdlghljdlaaGreatDoor
open Go.Sx
abbrev oS (es os:LD):Obs:=[(0,.cells [.slice es [],.vec 1]),(1,.arr true 8 135 os)]
abbrev oS2 (es os:LD):Obs:=[(0,.cells [.slice es [],.vec 2]),(2,.arr true 8 135 os)]
abbrev oN (es:LD):Obs:=[(0,.cells [.slice es [],.nils])]
abbrev fO:D:= .func (.func 105) [.ptr 0 0] []
def extQ (b:Bool) (es os:LD):QT:=fun d xs ob=>some (.br b (.ok (CallL Tryz.prog d xs ob fun r o=>r= .bool true/\o=oS2 es os) (.bool true) (oS2 es os)) (.ok (CallL Tryz.prog d xs ob fun r o=>r= .bool false/\o=[]) (.bool false) []))
theorem extQ_ok {b:Bool} {es os:LD}:(extQ b es os).OK:=by
 intro d xs ob rt h
 unfold extQ at h
 cases h
 cases b <;> exact fun hp=>hp
def clC (l:List (Nat × D)) (e:List (Nat × List D)) (c:List (Nat × D)) (q:QT):Ctr:=⟨(mCtr l e c).F,fun t d xs ob=>match lk c t with | some r=>some (.ok (CallL Tryz.prog d xs ob fun r0 o=>r0=r/\o=ob) r ob) | none=>q d xs ob,(mCtr l e c).E⟩
theorem clC_ok {l:List (Nat × D)} {e:List (Nat × List D)} {c:List (Nat × D)} {q:QT} (hq:q.OK):(clC l e c q).OK Tryz.prog:=by
 refine⟨(mCtr_ok (l:=l) (e:=e) (c:=c)).1,fun t d az ob rt h=> ?_⟩
 simp only[clC] at h
 split at h
 ·cases h; exact fun hp=>hp
 ·exact hq _ _ _ _ h
theorem MO_eq (es os:LD) (k n:Int) (s:LU) (a:LD) (k' n':Int) (s':LU) (a':LD) (b:Bool) (es' os':LD):goT Tryz.prog (qCtr [] (extQ b es' os')) 2 (finF false 2 rs105) 2000 [Fr.sc sc105] { tm:=envOf 0 ([dP 0 0]++[dA (tC k n s a),dA (tC k' n' s' a')]++[]),ob:=oS es os }=(brT (decide (k=(3:Int))) (brT b (Ow (CF 51 [dP 0 0,dS s,dA (tC k' n' s' a')] (oS es os) fun r o=>r=dB true/\o=(oS2 es' os')) (Rt (dB true) (oS2 es' os'))) (Ow (CF 51 [dP 0 0,dS s,dA (tC k' n' s' a')] (oS es os) fun r o=>r=dB false/\o=[]) (Rt (dB false) []))) (brT (decide (k=(5:Int))) (brT (decide (k=(5:Int))) (Ow (allLen 8 [[dU k,dI n,dS s,dL a [],dU k',dI n',dS s',dL a' []]]/\List.length os+1<=1073741824) (Rt (dB true) [(0,oC [dL es [],dV 2]),(2,oR true 8 135 (os++[[dU k,dI n,dS s,dL a [],dU k',dI n',dS s',dL a' []]]))])) (brT (decide (k=k')) (brT (decide (n=n')) (brT (decide (s=s')) (brT b (Ow (CF 70 [dP 0 0,dL a [],dL a' []] (oS es os) fun r o=>r=dB true/\o=(oS2 es' os')) (Rt (dB true) (oS2 es' os'))) (Ow (CF 70 [dP 0 0,dL a [],dL a' []] (oS es os) fun r o=>r=dB false/\o=[]) (Rt (dB false) []))) (Rt (dB false) (oS es os))) (Rt (dB false) (oS es os))) (Rt (dB false) (oS es os)))) (brT (decide (k=(6:Int))) (Ow (allLen 8 [[dU k,dI n,dS s,dL a [],dU k',dI n',dS s',dL a' []]]/\List.length os+1<=1073741824) (Rt (dB true) [(0,oC [dL es [],dV 2]),(2,oR true 8 135 (os++[[dU k,dI n,dS s,dL a [],dU k',dI n',dS s',dL a' []]]))])) (brT (decide (k=k')) (brT (decide (n=n')) (brT (decide (s=s')) (brT b (Ow (CF 70 [dP 0 0,dL a [],dL a' []] (oS es os) fun r o=>r=dB true/\o=(oS2 es' os')) (Rt (dB true) (oS2 es' os'))) (Ow (CF 70 [dP 0 0,dL a [],dL a' []] (oS es os) fun r o=>r=dB false/\o=[]) (Rt (dB false) []))) (Rt (dB false) (oS es os))) (Rt (dB false) (oS es os))) (Rt (dB false) (oS es os))))):Tr):=by kernel_rfl
theorem MOs_eq (es os xs ys:LD) (b:Bool) (es' os':LD):goT Tryz.prog (qCtr [] (extQ b es' os')) 2 (finF false 2 rs70) 2000 [Fr.sc sc70] { tm:=envOf 0 ([]++[dP 0 0,dL xs [],dL ys []]++[]),ob:=oS es os }=(brT b (Ow (CF 104 [dL xs [],dL ys [],dF 105 [dP 0 0] []] (oS es os) fun r o=>r=dB true/\o=(oS2 es' os')) (Rt (dB true) (oS2 es' os'))) (Ow (CF 104 [dL xs [],dL ys [],dF 105 [dP 0 0] []] (oS es os) fun r o=>r=dB false/\o=[]) (Rt (dB false) [])):Tr):=by kernel_rfl
theorem MEq_eq (es os xs ys:LD):goT Tryz.prog (mCtr []) 2 (finF false 2 rs104) 2000 [Fr.sc sc104] { tm:=envOf 0 ([]++[dL xs [],dL ys [],fO]++[]),ob:=oS es os }=(brT (!decide ((↑(List.length xs):Int)=(↑(List.length ys):Int))) (Rt (dB false) (oS es os)) (Jm (cut sc104 0) { tm:=[(1,dL ys []),(2,dF 105 [dP 0 0] []),(15,dL xs []),(16,dI (↑(List.length xs):Int)),(17,dI (0:Int))],ob:=(oS es os) }):Tr):=by kernel_rfl
def hdEq (xs ys:LD) (n i:Int) (ob:Obs):St:=⟨[(1,.slice ys []),(2,fO),(15,.slice xs []),(16,.int .i64 n),(17,.int .i64 i)],ob⟩
theorem MEqA_eq (es os xs ys:LD) (nn:Int) (i:Nat) (k n:Int) (s:LU) (a:LD) (k' n':Int) (s':LU) (a':LD) (b:Bool) (es' os':LD):goT Tryz.prog (clC [] [(20,tC k n s a),(24,tC k' n' s' a')] [] (extQ b es' os')) 2 (finF false 2 rs104) 2000 (cut sc104 0) (hdEq xs ys nn (↑i:Int) (oS es os))=(brT (decide ((↑i:Int)<nn)) (Ow ((0:Int)<=(↑i:Int)/\xs[Int.toNat (↑i:Int)]? = some (tC k n s a)) (Ow ((0:Int)<=(↑i:Int)/\ys[Int.toNat (↑i:Int)]? = some (tC k' n' s' a')) (brT b (Ow (CallL Tryz.prog (dF 105 [dP 0 0] []) [dA (tC k n s a),dA (tC k' n' s' a')] (oS es os) fun r o=>r=dB true/\o=(oS2 es' os')) (Ow ((-9223372036854775808:Int)<=(↑i:Int)+(1:Int)/\(↑i:Int)+(1:Int)<=(9223372036854775807:Int)) (Jm (cut sc104 0) { tm:=[(1,dL ys []),(2,dF 105 [dP 0 0] []),(15,dL xs []),(16,dI nn),(17,dI ((↑i:Int)+(1:Int)))],ob:=(oS2 es' os') }))) (Ow (CallL Tryz.prog (dF 105 [dP 0 0] []) [dA (tC k n s a),dA (tC k' n' s' a')] (oS es os) fun r o=>r=dB false/\o=[]) (Rt (dB false) []))))) (Rt (dB true) (oS es os)):Tr):=by kernel_rfl
theorem MEqB_eq (es os xs ys:LD) (nn:Int) (i:Nat) (k n:Int) (s:LU) (a:LD) (k' n':Int) (s':LU) (a':LD) (b:Bool) (es' os':LD):goT Tryz.prog (clC [] [(20,tC k n s a),(24,tC k' n' s' a')] [] (extQ b es' os')) 2 (finF false 2 rs104) 2000 (cut sc104 0) (hdEq xs ys nn (↑i:Int) (oS2 es os))=(brT (decide ((↑i:Int)<nn)) (Ow ((0:Int)<=(↑i:Int)/\xs[Int.toNat (↑i:Int)]? = some (tC k n s a)) (Ow ((0:Int)<=(↑i:Int)/\ys[Int.toNat (↑i:Int)]? = some (tC k' n' s' a')) (brT b (Ow (CallL Tryz.prog (dF 105 [dP 0 0] []) [dA (tC k n s a),dA (tC k' n' s' a')] (oS es os) fun r o=>r=dB true/\o=(oS2 es' os')) (Ow ((-9223372036854775808:Int)<=(↑i:Int)+(1:Int)/\(↑i:Int)+(1:Int)<=(9223372036854775807:Int)) (Jm (cut sc104 0) { tm:=[(1,dL ys []),(2,dF 105 [dP 0 0] []),(15,dL xs []),(16,dI nn),(17,dI ((↑i:Int)+(1:Int)))],ob:=(oS2 es' os') }))) (Ow (CallL Tryz.prog (dF 105 [dP 0 0] []) [dA (tC k n s a),dA (tC k' n' s' a')] (oS es os) fun r o=>r=dB false/\o=[]) (Rt (dB false) []))))) (Rt (dB true) (oS2 es os)):Tr):=by kernel_rfl
/- bind -/
theorem NBi_eq (es os:LD) (t:LU) (kv nv:Int) (sv:LU) (av:LD):goT Tryz.prog (mCtr []) 2 (finF false 2 rs51) 2000 [Fr.sc sc51] { tm:=envOf 0 ([]++[dP 0 0,dS t,dA (tC kv nv sv av)]++[]),ob:=oS es os }=(Jm (frg sc51 0) { tm:=[(0,dP 0 0),(1,dS t),(5,dP 2 0)],ob:=[(0,oC [dL es [],dV 1]),(1,oR true 8 135 os),(2,oC (tC kv nv sv av))] }:Tr):=by kernel_rfl
theorem NB0_eq (es os:LD) (t:LU) (kv nv:Int) (sv:LU) (av:LD) (i:Int) (b:Bool):goT Tryz.prog (mCtr [(16,D.tuple [dI i,dB b])]) 2 (finF false 2 rs51) 2000 (frg sc51 0) { tm:=[(0,dP 0 0),(1,dS t),(5,dP 2 0)],ob:=oS es os++[(2,oC (tC kv nv sv av))] }=(Ow (FK 82 [dL es [],dS t] (D.tuple [dI i,dB b])) (Jm (frg sc51 1) { tm:=[(0,dP 0 0),(1,dS t),(5,dP 2 0),(7,dI i),(8,dB b)],ob:=[(0,oC [dL es [],dV 1]),(1,oR true 8 135 os),(2,oC (tC kv nv sv av))] }):Tr):=by kernel_rfl
theorem NB1_eq (es os:LD) (t:LU) (kv nv:Int) (sv:LU) (av:LD) (i:Int) (b e:Bool) (m:LU) (k n:Int) (s:LU) (a:LD):goT Tryz.prog (mCtr [(29,dB e)] [(25,bC m k n s a)]) 2 (finF false 2 rs51) 2000 (frg sc51 1) { tm:=[(0,dP 0 0),(1,dS t),(5,dP 2 0),(7,dI i),(8,dB b)],ob:=oS es os++[(2,oC (tC kv nv sv av))] }=(brT b (Ow ((0:Int)<=i/\es[Int.toNat i]? = some (bC m k n s a)) (Ow (FK 27 [dA (tC k n s a),dA (tC kv nv sv av)] (dB e)) (Rt (dB e) (oS es os)))) (Jm (frg sc51 2) { tm:=[(0,dP 0 0),(1,dS t),(5,dP 2 0),(7,dI i)],ob:=[(0,oC [dL es [],dV 1]),(1,oR true 8 135 os),(2,oC (tC kv nv sv av))] }):Tr):=by kernel_rfl
noncomputable def NB2 (es os:LD) (t:LU) (kv nv:Int) (sv:LU) (av:LD) (i:Int):Tr:=Ow ((-9223372036854775808:Int)<=(↑(List.length es):Int)+(1:Int)/\(↑(List.length es):Int)+(1:Int)<=(9223372036854775807:Int)) (Ow ((0:Int)<=(↑(List.length es):Int)+(1:Int)/\((↑(List.length es):Int)+(1:Int))*(72:Int)<=(281474976710656:Int)/\(↑(List.length es):Int)+(1:Int)<=(1073741824:Int)) (Jm (frg sc51 3) { tm:=[(0,dP 0 0),(1,dS t),(5,dP 2 0),(7,dI i),(9,dV 3)],ob:=[(0,oC [dL es [],dV 1]),(1,oR true 8 135 os),(2,oC (tC kv nv sv av)),(3,oR false 5 45 ([dS [],dU (0:Int),dI (0:Int),dS [],dL [] []]::List.replicate (List.length es) [dS [],dU (0:Int),dI (0:Int),dS [],dL [] []]))] }))
theorem NB2_eq (es os:LD) (t:LU) (kv nv:Int) (sv:LU) (av:LD) (i:Int):goT Tryz.prog (mCtr []) 2 (finF false 2 rs51) 2000 (frg sc51 2) { tm:=[(0,dP 0 0),(1,dS t),(5,dP 2 0),(7,dI i)],ob:=oS es os++[(2,oC (tC kv nv sv av))] }=NB2 es os t kv nv sv av i:=by kernel_rfl
theorem NB3_eq (es os:LD) (t:LU) (kv nv:Int) (sv:LU) (av row A X:LD) (i:Int):goT Tryz.prog (mCtr [] [(43,[dL A X])]) 2 (finF false 2 rs51) 2000 (frg sc51 3) { tm:=[(0,dP 0 0),(1,dS t),(5,dP 2 0),(7,dI i),(9,dV 3)],ob:=oS es os++[(2,oC (tC kv nv sv av)),(3,oR false 5 45 row)] }=(Ow (allLen 5 (es++[])/\(0:Int)<=(0:Int)/\(0:Int)<=i/\i<=(↑(List.length (es++[])):Int)) (Ow (List.drop 0 (List.take (Int.toNat i) (es++[]))=A/\List.drop (Int.toNat i) (es++[])=X) (Ow (badN 5 A<1) (Jm (frg sc51 4) { tm:=[(0,dP 0 0),(1,dS t),(5,dP 2 0),(7,dI i),(9,dV 3)],ob:=[(0,oC [dL es [],dV 1]),(1,oR true 8 135 os),(2,oC (tC kv nv sv av)),(3,oR false 5 45 (cpyL row 0 A))] }))):Tr):=by kernel_rfl
theorem NB4_eq (es os:LD) (t:LU) (kv nv:Int) (sv:LU) (av row:LD) (i:Int):goT Tryz.prog (mCtr []) 2 (finF false 2 rs51) 2000 (frg sc51 4) { tm:=[(0,dP 0 0),(1,dS t),(5,dP 2 0),(7,dI i),(9,dV 3)],ob:=oS es os++[(2,oC (tC kv nv sv av)),(3,oR false 5 45 row)] }=(Ow ((0:Int)<=i/\i<(↑(List.length row):Int)) (Ow (Int.toNat i<List.length row) (Jm (frg sc51 5) { tm:=[(0,dP 0 0),(7,dI i),(9,dV 2)],ob:=[(0,oC [dL es [],dV 1]),(1,oR true 8 135 os),(2,oR false 5 45 (List.set row (Int.toNat i) (bC t kv nv sv av)))] })):Tr):=by kernel_rfl
theorem NB5_eq (es os row A X:LD) (i:Int):goT Tryz.prog (mCtr [] [(60,[dL A X])]) 2 (finF false 2 rs51) 2000 (frg sc51 5) { tm:=[(0,dP 0 0),(7,dI i),(9,dV 2)],ob:=oS es os++[(2,oR false 5 45 row)] }=(Ow ((-9223372036854775808:Int)<=i+(1:Int)/\i+(1:Int)<=(9223372036854775807:Int)) (Ow (row≠[]/\(0:Int)<=i+(1:Int)/\i+(1:Int)<=(↑(List.length row):Int)) (Ow (allLen 5 (es++[])/\(0:Int)<=i/\i<=(↑(List.length es):Int)/\(↑(List.length es):Int)<=(↑(List.length (es++[])):Int)) (Ow (List.drop (Int.toNat i) (List.take (Int.toNat (↑(List.length es):Int)) (es++[]))=A/\List.drop (Int.toNat (↑(List.length es):Int)) (es++[])=X) (Ow (badN 5 A<1) (Jm (frg sc51 6) { tm:=[(0,dP 0 0),(9,dV 2)],ob:=[(0,oC [dL es [],dV 1]),(1,oR true 8 135 os),(2,oR false 5 45 (cpyL row (Int.toNat (i+(1:Int))) A))] }))))):Tr):=by kernel_rfl
theorem NB6_eq (es os row:LD):goT Tryz.prog (mCtr []) 2 (finF false 2 rs51) 2000 (frg sc51 6) { tm:=[(0,dP 0 0),(9,dV 2)],ob:=oS es os++[(2,oR false 5 45 row)] }=(Jm (frg sc51 7) { tm:=[],ob:=[(0,oC [dV 2,dV 1]),(1,oR true 8 135 os),(2,oR false 5 45 row)] }:Tr):=by kernel_rfl
theorem NB7_eq (os row:LD):goT Tryz.prog (mCtr []) 2 (finF false 2 rs51) 2000 (frg sc51 7) { tm:=[],ob:=[(0,oC [dV 2,dV 1]),(1,oR true 8 135 os),(2,oR false 5 45 row)] }=(Rt (dB true) [(0,oC [dV 2,dV 1]),(1,oR true 8 135 os),(2,oR false 5 45 row)]:Tr):=by kernel_rfl
/- get,apply,result -/
theorem NGe_eq (es os:LD) (t:LU) (i:Int) (b:Bool) (m:LU) (k n:Int) (s:LU) (a:LD):goT Tryz.prog (mCtr [(14,D.tuple [dI i,dB b])] [(25,bC m k n s a)]) 2 (finF false 2 rs42) 2000 [Fr.sc sc42] { tm:=envOf 0 ([]++[dP 0 0,dS t]++[]),ob:=oS es os }=(Ow (FK 82 [dL es [],dS t] (D.tuple [dI i,dB b])) (brT (!b) (Rt (D.tuple [dA [dU (0:Int),dI (0:Int),dS [],dL [] []],dB false]) (oS es os)) (Ow ((0:Int)<=i/\es[Int.toNat i]? = some (bC m k n s a)) (Rt (D.tuple [dA (tC k n s a),dB true]) (oS es os)))):Tr):=by kernel_rfl
abbrev oP (es os:LD):Obs:=[(0,.cells [.ptr 1 0]),(1,.cells [.slice es [],.vec 2]),(2,.arr true 8 135 os)]
theorem NA1_eq (es os:LD) (k n:Int) (s:LU) (a:LD) (kv nv:Int) (sv:LU) (av:LD) (b:Bool):goT Tryz.prog (mCtr [] [] [(12,D.tuple [dA (tC kv nv sv av),dB b])]) 3 (finF false 3 rs113) 2000 [Fr.sc sc113] { tm:=envOf 0 ([]++[dA (tC k n s a)]++[dP 0 0]),ob:=oP es os }=(brT (!decide (k=(3:Int))) (Rt (D.tuple [dA [dU (0:Int),dI (0:Int),dS [],dL [] []],dB false]) (oP es os)) (Ow (CF 42 [dP 0 0,dS s] (oS es os) fun r0 o=>r0=D.tuple [dA (tC kv nv sv av),dB b]/\o=(oS es os)) (Rt (D.tuple [dA (tC kv nv sv av),dB b]) (oP es os))):Tr):=by kernel_rfl
theorem NTA_eq (es os:LD) (k n:Int) (s:LU) (a a':LD) (kv nv:Int) (sv:LU) (av:LD) (b:Bool):goT Tryz.prog (mCtr [(15,dA (tC kv nv sv av))] [] [(10,D.tuple [dA (tC kv nv sv av),dB b]),(19,dL a' [])]) 3 (finF false 3 rs45) 2000 [Fr.sc sc45] { tm:=envOf 0 ([]++[fA,dA (tC k n s a)]++[]),ob:=oP es os }=(Ow (CallL Tryz.prog (dF 113 [] [dP 0 0]) [dA (tC k n s a)] (oP es os) fun r0 o=>r0=D.tuple [dA (tC kv nv sv av),dB b]/\o=(oP es os)) (brT b (Ow (FK 43 [dA (tC kv nv sv av)] (dA (tC kv nv sv av))) (Rt (dA (tC kv nv sv av)) (oP es os))) (Ow (CF 85 [dF 113 [] [dP 0 0],dL a []] (oP es os) fun r0 o=>r0=dL a' []/\o=(oP es os)) (Rt (dA (tC k n s a')) (oP es os)))):Tr):=by kernel_rfl
theorem NSA_eq (es os l:LD):goT Tryz.prog (mCtr []) 3 (finF false 3 rs85) 2000 [Fr.sc sc85] { tm:=envOf 0 ([]++[fA,dL l []]++[]),ob:=oP es os }=(Jm (cut sc85 0) { tm:=[(0,dF 113 [] [dP 0 0]),(4,dV 3),(7,dL l []),(8,dI (↑(List.length l):Int)),(9,dI (0:Int))],ob:=[(0,oC [dP 1 0]),(1,oC [dL es [],dV 2]),(2,oR true 8 135 os),(3,oR true 4 35 [])] }:Tr):=by kernel_rfl
def hdNA (es os l row:LD) (m i:Int):St:=⟨[(0,fA),(4,.vec 3),(7,.slice l []),(8,.int .i64 m),(9,.int .i64 i)],oP es os++[(3,.arr true 4 35 row)]⟩
theorem NSA2_eq (es os l row:LD) (m:Int) (i:Nat) (kx nx:Int) (sx:LU) (ax:LD) (ky ny:Int) (sy:LU) (ay:LD):goT Tryz.prog (mCtr [] [(11,tC kx nx sx ax)] [(16,dA (tC ky ny sy ay))]) 3 (finF false 3 rs85) 2000 (cut sc85 0) (hdNA es os l row m (↑i:Int))=(brT (decide ((↑i:Int)<m)) (Ow ((0:Int)<=(↑i:Int)/\l[Int.toNat (↑i:Int)]? = some (tC kx nx sx ax)) (Ow (CF 45 [dF 113 [] [dP 0 0],dA (tC kx nx sx ax)] (oP es os) fun r0 o=>r0=dA (tC ky ny sy ay)/\o=(oP es os)) (Ow (allLen 4 [(tC ky ny sy ay)]/\List.length row+1<=1073741824) (Ow ((-9223372036854775808:Int)<=(↑i:Int)+(1:Int)/\(↑i:Int)+(1:Int)<=(9223372036854775807:Int)) (Jm (cut sc85 0) { tm:=[(0,dF 113 [] [dP 0 0]),(4,dV 3),(7,dL l []),(8,dI m),(9,dI ((↑i:Int)+(1:Int)))],ob:=[(0,oC [dP 1 0]),(1,oC [dL es [],dV 2]),(2,oR true 8 135 os),(3,oR true 4 35 (row++[(tC ky ny sy ay)]))] }))))) (Rt (dV 3) [(0,oC [dP 1 0]),(1,oC [dL es [],dV 2]),(2,oR true 8 135 os),(3,oR true 4 35 row)]):Tr):=by kernel_rfl
theorem NAy_eq (es os:LD):goT Tryz.prog (mCtr []) 2 (finF false 2 rs84) 2000 [Fr.sc sc84] { tm:=envOf 0 ([]++[dP 0 0]++[]),ob:=oS es os }=(Rt (dF 113 [] [dP 2 0]) [(0,oC [dL es [],dV 1]),(1,oR true 8 135 os),(2,oC [dP 0 0])]:Tr):=by kernel_rfl
theorem NR0_eq (es os:LD):goT Tryz.prog (mCtr []) 2 (finF false 2 rs52) 2000 [Fr.sc sc52] { tm:=envOf 0 ([]++[dP 0 0]++[]),ob:=oS es os }=(Jm (cut sc52 0) { tm:=[(2,dV 2),(8,dL es []),(9,dI (↑(List.length es):Int)),(10,dI (0:Int))],ob:=[(0,oC [dL es [],dV 1]),(1,oR true 8 135 os),(2,oR true 5 45 [])] }:Tr):=by kernel_rfl
def hdNR (es os row:LD) (m i:Int):St:=⟨[(2,.vec 2),(8,.slice es []),(9,.int .i64 m),(10,.int .i64 i)],oS es os++[(2,.arr true 5 45 row)]⟩
theorem NR02_eq (es os row:LD) (mm:Int) (i:Nat) (m:LU) (k n:Int) (s:LU) (a:LD):goT Tryz.prog (mCtr [(19,dA (tC k n s a))] [(12,bC m k n s a),(13,bC m k n s a)]) 2 (finF false 2 rs52) 2000 (cut sc52 0) (hdNR es os row mm (↑i:Int))=(brT (decide ((↑i:Int)<mm)) (Ow ((0:Int)<=(↑i:Int)/\es[Int.toNat (↑i:Int)]? = some (bC m k n s a)) (Ow (FK 43 [dA (tC k n s a)] (dA (tC k n s a))) (Ow (allLen 5 [(bC m k n s a)]/\List.length row+1<=1073741824) (Ow ((-9223372036854775808:Int)<=(↑i:Int)+(1:Int)/\(↑i:Int)+(1:Int)<=(9223372036854775807:Int)) (Jm (cut sc52 0) { tm:=[(2,dV 2),(8,dL es []),(9,dI mm),(10,dI ((↑i:Int)+(1:Int)))],ob:=[(0,oC [dL es [],dV 1]),(1,oR true 8 135 os),(2,oR true 5 45 (row++[(bC m k n s a)]))] }))))) (Rt (dV 2) [(0,oC [dL es [],dV 1]),(1,oR true 8 135 os),(2,oR true 5 45 row)]):Tr):=by kernel_rfl
/- closed -/
def apyQ:QT:=fun d xs ob=>match d,xs,ob with
 | .func (.func f) [] [],[.ptr 0 0],[(0,.cells [.slice es [],.vec 1]),(1,.arr true 8 e os)]=>if f=84/\e=135 then some (.ok True (.func (.func 113) [] [.ptr 2 0]) (oS es os++[(2,.cells [.ptr 0 0])])) else none
 | _,_,_=>none
theorem NCl_eq (es os:LD):goT Tryz.prog (mCtr []) 2 (finF false 2 rs71) 2000 [Fr.sc sc71] { tm:=envOf 0 ([]++[dP 0 0]++[]),ob:=oS es os }=(Jm (cut sc71 0) { tm:=[(0,dP 0 0),(10,dV 1),(11,dI (↑(List.length os):Int)),(12,dI (0:Int))],ob:=(oS es os) }:Tr):=by kernel_rfl
def hdCl (es os:LD) (m i:Int):St:=⟨[(0,.ptr 0 0),(10,.vec 1),(11,.int .i64 m),(12,.int .i64 i)],oS es os⟩
theorem NCl2_eq (es os:LD) (m:Int) (i:Nat) (k n:Int) (s:LU) (a:LD) (k' n':Int) (s':LU) (a':LD) (kt nt:Int) (st:LU) (ta l:LD) (e:Int) (b:Bool):goT Tryz.prog (clC [(24,D.tuple [dL l [],dI e])] [(14,tC k n s a++tC k' n' s' a')] [(23,dA (tC kt nt st ta)),(32,dB b)] apyQ) 2 (finF false 2 rs71) 2000 (cut sc71 0) (hdCl es os m (↑i:Int))=(brT (decide ((↑i:Int)<m)) (Ow ((0:Int)<=(↑i:Int)/\os[Int.toNat (↑i:Int)]? = some [dU k,dI n,dS s,dL a [],dU k',dI n',dS s',dL a' []]) (Ow True (Ow ((0:Int)<=(0:Int)/\(0:Int)<(2:Int)) (Ow (CF 45 [dF 113 [] [dP 0 0],dA (tC k n s a)] (oP es os) fun r0 o=>r0=dA (tC kt nt st ta)/\o=(oP es os)) (Ow (FK 22 [dA (tC kt nt st ta)] (D.tuple [dL l [],dI e])) (brT (!decide (e=(0:Int))) (Rt (dB false) (oS es os)) (Ow (CF 69 [dL l [],dF 106 [] [dP 0 0]] [(0,oC [dU k,dI n,dS s,dL a [],dU k',dI n',dS s',dL a' []])] fun r0 o=>r0=dB b/\o=[(0,oC [dU k,dI n,dS s,dL a [],dU k',dI n',dS s',dL a' []])]) (brT (!b) (Rt (dB false) (oS es os)) (Ow ((-9223372036854775808:Int)<=(↑i:Int)+(1:Int)/\(↑i:Int)+(1:Int)<=(9223372036854775807:Int)) (Jm (cut sc71 0) { tm:=[(0,dP 0 0),(10,dV 1),(11,dI m),(12,dI ((↑i:Int)+(1:Int)))],ob:=(oS es os) })))))))))) (Rt (dB true) (oS es os)):Tr):=by kernel_rfl
end Go.Proofs.YtobgkdlghljdlaaGreatDoor
/- match.state: binding,matching of lists. -/
namespace Go.Proofs.YtobgkdlghljdlaaGreatDoor
open Go.Sx
abbrev nR2 (os row:LD):Obs:=[(0,.cells [.vec 2,.vec 1]),(1,.arr true 8 135 os),(2,.arr false 5 45 row)]
theorem nbind0 (l:List Bd) (os:LD) (t:LU) (v w:Tm) (hl:l.length<=1000000) (hs:srtB l) (hw: ∀ x∈l,x.v.wf 281474976710656) (hv:v.wf 281474976710656) (hg:getB l t=some w):CF 51 [.ptr 0 0,.str t,.agg v.cells] (oS (bdL l) os) fun r ob=>r= .bool (w.eqb v)/\ob=oS (bdL l) os:=by
 have hfi:=find_ok l t hl hs
 unfold fndD at hfi
 have hgp:=getB_pos (s:=t) hs
 have hlt:posB l t<l.length:=Nat.lt_of_not_le fun h=>by
  rw[List.getElem?_eq_none h,hg] at hgp; cases hgp
 have hx:=bdL_get hlt
 rw[List.getElem?_eq_getElem hlt,hg] at hgp
 simp only at hgp
 have he:=equal_ok l[posB l t].v v (hw _ (List.getElem_mem hlt)) hv
 by_cases e:l[posB l t].n=t
 ·rw[if_pos e] at hgp
  have hgp:w=l[posB l t].v:=Option.some.inj hgp
  rw[<- hgp] at he
  rw[hg] at hfi
  have hx:(bdL l)[posB l t]? = some (Bd.c ⟨l[posB l t].n,w⟩):=by rw[hx,hgp]
  generalize l[posB l t].n=nm at hx
  obtain⟨k,n,s,a⟩:=w
  obtain⟨kv,nv,sv,av⟩:=v
  refine CallL.tree hdraw fp51 mCtr_ok (NBi_eq (bdL l) os t kv nv sv (Tm.cellsL av)) ?_
  rw[ok_jmp]
  refine At.tree mCtr_ok (NB0_eq (bdL l) os t kv nv sv (Tm.cellsL av) (posB l t) true) ?_
  refine⟨hfi, ?_⟩
  rw[ok_jmp]
  refine At.tree mCtr_ok (NB1_eq (bdL l) os t kv nv sv (Tm.cellsL av) (posB l t) true (Tm.eqb (.mk k n s a) (.mk kv nv sv av)) nm k n s (Tm.cellsL a)) ?_
  exact⟨⟨by omega,by rw[Int.toNat_natCast]; exact hx⟩,he,rfl,rfl⟩
 ·rw[if_neg e] at hgp; cases hgp
theorem NB2_rep (es os:LD) (t:LU) (kv nv:Int) (sv:LU) (av:LD) (i:Int):NB2 es os t kv nv sv av i= .owe ((-9223372036854775808:Int)<=(es.length:Int)+1/\(es.length:Int)+1<=9223372036854775807) (.owe ((0:Int)<=(es.length:Int)+1/\((es.length:Int)+1)*72<=281474976710656/\(es.length:Int)+1<=1073741824) (.jmp (frg sc51 3) ⟨[(0,.ptr 0 0),(1,.str t),(5,.ptr 2 0),(7,.int .i64 i),(9,.vec 3)],[(0,.cells [.slice es [],.vec 1]),(1,.arr true 8 135 os),(2,.cells (tC kv nv sv av)),(3,.arr false 5 45 (List.replicate (es.length+1) zB))]⟩)):=by kernel_rfl
theorem nbind1 (l:List Bd) (os:LD) (t:LU) (v:Tm) (hl:l.length<=1000000) (hs:srtB l) (hg:getB l t=none):CF 51 [.ptr 0 0,.str t,.agg v.cells] (oS (bdL l) os) fun r ob=>r= .bool true/\ob=nR2 os (bdL (insB' l t v)):=by
 have hfi:=find_ok l t hl hs
 unfold fndD at hfi
 rw[hg] at hfi
 have hp:=posB_le l t
 generalize hi:posB l t=i at hfi hp
 have hr:bdL (insB' l t v)=(bdL l).take i++Bd.c ⟨t,v⟩::(bdL l).drop i:=by
  unfold insB'
  rw[hi,bdL_app,bdL_take]
  show _++Bd.c ⟨t,v⟩::bdL (l.drop i)=_
  rw[bdL_drop]
 rw[hr,<- cpy_ins (z:=zB) (by rw[bdL_len]; exact hp)]
 have hL:=bdL_len l
 have hA:=bdL_all l
 have hAA:=bdL_allLen l
 generalize bdL l=es at hfi hL hA hAA
 obtain⟨kv,nv,sv,av⟩:=v
 refine CallL.tree hdraw fp51 mCtr_ok (NBi_eq es os t kv nv sv (Tm.cellsL av)) ?_
 rw[ok_jmp]
 refine At.tree mCtr_ok (NB0_eq es os t kv nv sv (Tm.cellsL av) i false) ?_
 refine⟨hfi, ?_⟩
 rw[ok_jmp]
 refine At.tree mCtr_ok (NB1_eq es os t kv nv sv (Tm.cellsL av) i false false [] 0 0 [] []) ?_
 have h2: ∀ row:LD,row.length=es.length+1->At Tryz.prog 2 (frg sc51 4) ⟨[(0,.ptr 0 0),(1,.str t),(5,.ptr 2 0),(7,.int .i64 i),(9,.vec 3)],[(0,.cells [.slice es [],.vec 1]),(1,.arr true 8 135 os),(2,.cells (tC kv nv sv (Tm.cellsL av))),(3,.arr false 5 45 row)]⟩ (FinQ false 2 rs51 fun r ob=>r= .bool true/\ob=nR2 os (cpyL (row.set i (Bd.c ⟨t,.mk kv nv sv av⟩)) (i+1) (es.drop i))):=fun row hrow=>by
  refine At.tree mCtr_ok (NB4_eq es os t kv nv sv (Tm.cellsL av) row i) ?_
  refine⟨⟨by omega,by omega⟩,by rw[Int.toNat_natCast]; omega, ?_⟩
  rw[ok_jmp]
  have hl2:(row.set i (Bd.c ⟨t,.mk kv nv sv av⟩)).length=es.length+1:=by rw[List.length_set]; exact hrow
  show At Tryz.prog 2 (frg sc51 5) ⟨[(0,.ptr 0 0),(7,.int .i64 i),(9,.vec 2)],[(0,.cells [.slice es [],.vec 1]),(1,.arr true 8 135 os),(2,.arr false 5 45 (row.set i (Bd.c ⟨t,.mk kv nv sv av⟩)))]⟩ _
  generalize row.set i (Bd.c ⟨t,.mk kv nv sv av⟩)=row2 at hl2 ⊢
  refine At.tree mCtr_ok (NB5_eq es os row2 (es.drop i) [] i) ?_
  have et:((i:Int)+1).toNat=i+1:=by omega
  rw[List.append_nil,Int.toNat_natCast,Int.toNat_natCast,List.take_length,List.drop_length,et]
  rw[List.append_nil] at hAA
  refine⟨by omega,⟨fun h=>by rw[h] at hl2; simp at hl2,by omega,by omega⟩,⟨hAA,by omega,by omega,by omega⟩,⟨rfl,rfl⟩,badN_zero.2 fun q hq=>hA q (List.mem_of_mem_drop hq), ?_⟩
  rw[ok_jmp]
  generalize cpyL row2 (i+1) (es.drop i)=row3
  refine At.tree mCtr_ok (NB6_eq es os row3) ?_
  rw[ok_jmp]
  refine At.tree mCtr_ok (NB7_eq os row3) ?_
  exact⟨rfl,rfl⟩
 have h1: ∀ row:LD,row.length=es.length+1->At Tryz.prog 2 (frg sc51 3) ⟨[(0,.ptr 0 0),(1,.str t),(5,.ptr 2 0),(7,.int .i64 i),(9,.vec 3)],[(0,.cells [.slice es [],.vec 1]),(1,.arr true 8 135 os),(2,.cells (tC kv nv sv (Tm.cellsL av))),(3,.arr false 5 45 row)]⟩ (FinQ false 2 rs51 fun r ob=>r= .bool true/\ob=nR2 os (cpyL ((cpyL row 0 (es.take i)).set i (Bd.c ⟨t,.mk kv nv sv av⟩)) (i+1) (es.drop i))):=fun row hrow=>by
  refine At.tree mCtr_ok (NB3_eq es os t kv nv sv (Tm.cellsL av) row (es.take i) (es.drop i) i) ?_
  rw[List.append_nil,Int.toNat_natCast]
  rw[List.append_nil] at hAA
  refine⟨⟨hAA,by omega,by omega,by omega⟩,⟨rfl,rfl⟩,badN_zero.2 fun q hq=>hA q (List.mem_of_mem_take hq), ?_⟩
  rw[ok_jmp]
  exact h2 _ (by rw[cpyL_len _ _ _ (Nat.zero_le _)]; exact hrow)
 refine At.tree mCtr_ok (NB2_eq es os t kv nv sv (Tm.cellsL av) i) ?_
 rw[NB2_rep]
 refine⟨by omega,by omega, ?_⟩
 rw[ok_jmp]
 exact h1 (List.replicate (es.length+1) zB) (List.length_replicate ..)
theorem keepO_none (o:Obs):keepO (fun _=>false) o=[]:=by
 induction o with
 | nil=>rfl
 | cons x r ih=>obtain⟨i,y⟩:=x; simp only[keepO]; exact ih
theorem CallL.lost {d:D} {xs:List D} {ob:Obs} {r0:D} {R:Obs->Prop} (h:CallL Tryz.prog d xs ob fun r o=>r=r0/\R o):CallL Tryz.prog d xs ob fun r o=>r=r0/\o=[] :=
 (h.keep (fun _=>false)).mono fun r o ⟨o0,h1,h2,_⟩=>⟨h2,by rw[h1,keepO_none]⟩
abbrev prD (os:List (Tm × Tm)):LD:=os.map fun x=>x.1.cells++x.2.cells
abbrev sO (b:List Bd) (os:List (Tm × Tm)):Obs:=oS (bdL b) (prD os)
abbrev sO2 (b:List Bd) (os:List (Tm × Tm)):Obs:=oS2 (bdL b) (prD os)
theorem re2S {d:D} {xs:List D} {ob:Obs} {r0:D} {es os:LD} (hob:lk ob 2=none) (hr:D.men 2 r0=false) (h:CallL Tryz.prog d xs ob fun r o=>r=r0/\o=oS es os):CallL Tryz.prog d xs ob fun r o=>r=r0/\o=oS2 es os:=CallL.re2 hob rfl hr h
def ExR (q:Option (List Bd × List (Tm × Tm))) (r:D) (ob:Obs):Prop:=match q with
 | some x=>r= .bool true/\ob=sO2 x.1 x.2
 | none=>r= .bool false/\ob=[]
theorem bnd_ok (b:List Bd) (os:List (Tm × Tm)) (t:LU) (v:Tm) (hl:b.length<=1000000) (hs:srtB b) (hw: ∀ x∈b,x.v.wf 281474976710656) (hv:v.wf 281474976710656):CF 51 [.ptr 0 0,.str t,.agg v.cells] (sO b os) (ExR ((bnd1 b t v).map fun c=>(c,os))):=by
 unfold bnd1
 cases hg:getB b t with
 | some w =>
  have h:=nbind0 b (prD os) t v w hl hs hw hv hg
  by_cases e:w.eqb v=true
  ·rw[e] at h
   simp only[e,if_true,Option.map_some,ExR]
   exact re2S rfl rfl h
  ·rw[Bool.eq_false_iff.2 e] at h
   simp only[e,if_false,Option.map_none,ExR]
   exact CallL.lost h
 | none =>
  have h:=nbind1 b (prD os) t v hl hs hg
  simp only[Option.map_some,ExR]
  refine re2S rfl rfl (((h.frzAll.dvA 0 0).keep fun i=>decide (i<2)).mono ?_)
  rintro r o ⟨o0,h1,o1,h2,o2,h3,h4,h5⟩
  subst h5
  subst h3
  subst h2
  exact⟨h4,h1⟩
end Go.Proofs.YtobgkdlghljdlaaGreatDoor
