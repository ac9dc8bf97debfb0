/- Own work: a layer over the kit: plain data,a walk over it,its soundness. -/
import Derived.Test.YtecgehidegnmnaaGreatDoorClass
import Derived.Test.YtecgehidegnmnaaGreatDoorPrSa
import Derived.Test.YtecgehidegnmnaaGreatDoorSx11
set_option linter.unusedSectionVars false
set_option linter.unusedVariables false
set_option linter.unusedSimpArgs false
set_option linter.deprecated false
set_option maxRecDepth 100000
/- Join. -/
namespace Go.Proofs.YtecgehidegnmnaaGreatDoor
open Go.Sx
theorem Zi7 (es ext:LD):gP (ctr libT) rs14 sc14 [dL es ext]=(Jm (cut sc14 0) { tm:=[(3,dV 0),(6,dL es ext),(7,dI (↑(List.length es):Int)),(8,dI 0)],ob:=[(0,oR true 1 9 [])] }:Tr):=by kernel_rfl
def hdJn (es ext:LD) (acc:List (LU)) (i:Int):St:=⟨[(3,.vec 0),(6,.slice es ext),(7,.int .i64 es.length),(8,.int .i64 i)],[(0,.arr true 1 9 (strC acc))]⟩
theorem Z9v (l:List Lx.Tk) (ext:LD) (acc:List (LU)) (i:Int):let A:=(List.getD l (Int.toNat i) ((0:Int),[],(0:Int)));let B:=List.map Lx.tokC l;let C:=List.map deS (strC acc);let E:=Prod.fst (Prod.snd A);let F:=(Lib.join C [(32:UInt8)]);let G:=(↑(List.length B):Int);let H:=cut sc14 0;let I:=(i+(1:Int));gH (ctr libT Qs fun x n=>Lx.tokC (List.getD l (Int.toNat n) default)) 0 true rs14 H (hdJn B ext acc i)=(brT (decide (i<G)) (Ow ((0:Int)<=i/\B[Int.toNat i]? = some [dU (Prod.fst A),dS E,dI (Prod.snd (Prod.snd A))]) (Ow (Zb 1 [[dS E]]/\List.length (strC acc)+1<=1073741824) (I8 I (Jm H { tm:=[(3,dV 0),(6,dL B ext),(7,dI G),(8,dI I)],ob:=[(0,oR true 1 9 (strC acc++[[dS E]]))] })))) (Ow (strC acc=List.map (fun t=>[dS t]) C/\List.length C<=140737488355328/\List.length F<=140737488355328) (Rt (dS F) [])):Tr):=by intro A B C E F G H I;kernel_rfl
def txs (l:List Lx.Tk):List (LU):=l.map (·.2.1)
theorem Zj6 (l:List Lx.Tk) (ext:LD) (hl:l.length<=1073741824) (hj:(Lib.join (txs l) [32]).length<=140737488355328): ∀ (m i:Nat),l.length-i=m->i<=l.length →
  At Tryz.prog 0 (cut sc14 0) (hdJn (l.map Lx.tokC) ext (txs (l.take i)) i) (FinQ true 0 rs14 fun r _=>r= .str (Lib.join (txs l) [32])):=by
 intro m
 induction m with
 | zero =>
  intro i hm hi
  refine At.tree (Z4 Z1 Z3) (Z9v l ext _ i) ?_
  rw[List.take_of_length_le (by omega)]
  simp only[SS,List.length_map,Z4q]
  have hlt:(txs l).length=l.length:=by simp[txs]
  exact⟨fun h=>by omega,fun _=>⟨rfl,by omega,hj⟩⟩
 | succ m ih =>
  intro i hm hi
  have h1:i<l.length:=by omega
  refine At.tree (Z4 Z1 Z3) (Z9v l ext _ i) ?_
  simp only[SS,List.length_map,Z07]
  have hlt:(txs (l.take i)).length<=i:=by simp only[txs,List.length_map,List.length_take]; omega
  refine⟨fun _=>⟨⟨by omega,Lx.tokC_get h1⟩,⟨Z0s.2 ⟨rfl,Z0V _⟩,by omega⟩,by omega, ?_⟩,fun h=>by omega⟩
  have:=ih (i+1) (by omega) (by omega)
  have e:txs (l.take (i+1))=txs (l.take i)++[(l.getD i default).2.1]:=by
   unfold txs
   rw[List.take_add_one,List.getElem?_eq_getElem h1,List.map_append,List.getD_eq_getElem?_getD,List.getElem?_eq_getElem h1]
   rfl
  rw[e] at this
  simp only[hdJn,strC,List.map_append,List.map_cons,List.map_nil,List.length_map] at this
  exact this
theorem Zer (l:List Lx.Tk) (ext:LD) (hl:l.length<=1073741824) (hj:(Lib.join (txs l) [32]).length<=140737488355328):FK 14 [.slice (l.map Lx.tokC) ext] (.str (Lib.join (txs l) [32])) :=
 FnOK.tree Z5 fp14 (Z4 Z1 Z3) (Zi7 _ ext) (Zj6 l ext hl hj _ 0 rfl (Nat.zero_le _))
end Go.Proofs.YtecgehidegnmnaaGreatDoor
/- Tokens only. -/
namespace Go.Proofs.YtecgehidegnmnaaGreatDoor
open Go.Sx
open Go.Sx.Lx (Tk tokC)
open Go.Sx.Ps (Ac)
theorem ZhV (src:LU) (tl:LD) (a e:Int) (js:LU) (tk:LD) (a2 e2:Int) (rl cl sl:LD) (so:Bool) (pa pe:Int) (rl2 cl2 sl2:LD) (so2:Bool) (qa qe:Int) (b:Bool):let A:=[dL rl2 [],dL cl2 [],dL sl2 [],dB so2];let B:=[dL rl [],dL cl [],dL sl [],dB so];let E:=Rt (dB false) [];let G:=(↑(List.length src):Int);let H:=[dL tk [],dI a2,dI e2];let I:=[dL tl [],dI a,dI e];let J:=[dA A,dI qa,dI qe];let K:=[dA B,dI pa,dI pe];let L:=dB true;goT Tryz.prog { F:=fun x=>fnT (if x=36 then [(11,D.tuple H)] else if x=48 then [(9,D.tuple J)] else [(8,dB true),(11,D.tuple I),(14,dS js),(9,D.tuple K),(15,dB b)]),C:=fun x=>Qs } 0 (finF true 0 rs5) 2000 [Fr.sc sc5] { tm:=Zc 0 [dS src],ob:=[] }=(Ow (FK 8 [] L) (Ow (FK 11 [dS src] (D.tuple I)) (brT (!decide (e=(0:Int))) (Rt L []) (brT (decide ((4000:Int)<G)) (Rt L []) (Ow (FK 14 [dL tl []] (dS js)) (Ow (FK 11 [dS js] (D.tuple H)) (Ow (FK 9 [dS src] (D.tuple K)) (Ow (FK 9 [dS js] (D.tuple J)) (brT (!decide (pe=qe)) E (Ow (FK 15 [dA B,dA A] (dB b)) (brT (!b) E (brT (!decide ((↑(List.length tk):Int)=(↑(List.length tl):Int))) E (brT (decide (pe=(0:Int))) (brT (decide (pa=(0:Int))) (Rt (dB (decide (qa=(0:Int)))) []) E) (brT (decide (pa=G)) (Rt (dB (decide (qa=(↑(List.length js):Int)))) []) (Jm (cut sc5 0) { tm:=[(3,dL tl []),(7,dL tk []),(11,dI pa),(14,dI qa),(16,dI 0)],ob:=[] })))))))))))))):Tr):=by intro A B E G H I J K L;kernel_rfl
def hdTk (l k:LD) (pa qa i:Int):St:=⟨[(3,.slice l []),(7,.slice k []),(11,.int .i64 pa),(14,.int .i64 qa),(16,.int .i64 i)],[]⟩
theorem Z9i (l k:LD) (pa qa i k1:Int) (s1:LU) (o1 k2:Int) (s2:LU) (o2:Int):let A:=[dU k1,dS s1,dI o1];let B:=[dU k2,dS s2,dI o2];let C:=cut sc5 0;let E:=(i+(1:Int));gH (ctr libT Qs fun t x=>if t=92 then A else B) 0 true rs5 C (hdTk l k pa qa i)=(brT (decide (i<(↑(List.length l):Int))) (Ow ((0:Int)<=i/\l[Int.toNat i]? = some A) (brT (decide (o1=pa)) (Ow ((0:Int)<=i/\k[Int.toNat i]? = some B) (Rt (dB (decide (o2=qa))) [])) (I8 E (Jm C { tm:=[(3,dL l []),(7,dL k []),(11,dI pa),(14,dI qa),(16,dI E)],ob:=[] })))) (Rt (dB false) []):Tr):=by intro A B C E;kernel_rfl
theorem Z79 {l:List Tk} {i:Nat} (h:i<l.length) (lim:Nat): ∃ k s,(l.map tokC)[i]? = some [.int .u8 k,.str s,.int .i64 (Ps.offP l lim i)]:=by
 refine⟨l[i].1,l[i].2.1, ?_⟩
 unfold Ps.offP
 rw[List.getElem?_map,List.getElem?_eq_getElem h]
 rfl
theorem Zit (l k:List Tk) (pa qa:Int) (n m1 m2:Nat) (hl:l.length<=4000) (hn:n<l.length) (hk:k.length=l.length) (h1:pa=Ps.offP l m1 n) (h2:qa=Ps.offP k m2 n) (h3: ∀ i,i<n->Ps.offP l m1 i≠pa): ∀ (m i:Nat),n-i=m->i<=n →
  At Tryz.prog 0 (cut sc5 0) (hdTk (l.map tokC) (k.map tokC) pa qa i) (FinQ true 0 rs5 fun r _=>r= .bool true):=by
 intro m
 induction m with
 | zero =>
  intro i hm hi
  have e:i=n:=by omega
  subst e
  obtain⟨a1,b1,c1⟩:=Z79 (l:=l) (i:=i) hn m1
  obtain⟨a2,b2,c2⟩:=Z79 (l:=k) (i:=i) (by omega) m2
  refine At.tree (Z4 Z1 Z3) (Z9i (l.map tokC) (k.map tokC) pa qa i a1 b1 (Ps.offP l m1 i) a2 b2 (Ps.offP k m2 i)) ?_
  simp only[SS,List.length_map]
  exact⟨fun _=>⟨⟨by omega,c1⟩,fun _=>⟨⟨by omega,c2⟩,h2.symm⟩,fun h=>absurd h1.symm h⟩,fun h=>by omega⟩
 | succ m ih =>
  intro i hm hi
  have hin:i<n:=by omega
  obtain⟨a1,b1,c1⟩:=Z79 (l:=l) (i:=i) (by omega) m1
  refine At.tree (Z4 Z1 Z3) (Z9i (l.map tokC) (k.map tokC) pa qa i a1 b1 (Ps.offP l m1 i) 0 [] 0) ?_
  simp only[SS,List.length_map]
  exact⟨fun _=>⟨⟨by omega,c1⟩,fun h=>absurd h (h3 i hin),fun _=>⟨by omega,ih (i+1) (by omega) (by omega)⟩⟩,fun h=>by omega⟩
theorem Ziu {F:Nat->PT} (h: ∀ x,(F x).OK) {E:Nat->Int->List D}:(⟨F,fun _=>Qs,E⟩:Ctr).OK Tryz.prog:=⟨h,fun _=>Z3⟩
theorem Z77 (hA:FK 8 [] (.bool true)) (src:LU):FK 5 [.str src] (.bool true):=by
 have hL:=Z3F src
 have hP:=Z4A src
 have hL2:=Z3F (Ps.joinS src)
 have hP2:=Z4A (Ps.joinS src)
 refine FnOK.tree Z5 fp5 (Ziu fun _=>ZhA _) (ZhV src ((Lx.lexR src).1.map tokC) (Lx.lexR src).2.1 (Lx.lexR src).2.2 (Ps.joinS src) ((Lx.lexR (Ps.joinS src)).1.map tokC) (Lx.lexR (Ps.joinS src)).2.1 (Lx.lexR (Ps.joinS src)).2.2 (ruL (Ps.parseR src).1.r) (coL (Ps.parseR src).1.c) (shL (Ps.parseR src).1.s) (Ps.parseR src).1.so (Ps.parseR src).2.1 (Ps.parseR src).2.2 (ruL (Ps.parseR (Ps.joinS src)).1.r) (coL (Ps.parseR (Ps.joinS src)).1.c) (shL (Ps.parseR (Ps.joinS src)).1.s) (Ps.parseR (Ps.joinS src)).1.so (Ps.parseR (Ps.joinS src)).2.1 (Ps.parseR (Ps.joinS src)).2.2 true) ?_
 simp only[SS,List.length_map]
 refine⟨hA,hL,fun _=>trivial,fun he=>⟨fun _=>trivial,fun h4=> ?_⟩⟩
 have hs:src.length<=4000:=by omega
 obtain⟨j1,j2,j3,j4⟩:=Ps.joined hs he
 obtain⟨g1,g2,g3,g4,g5⟩:=Ps.tokens_plain hs he
 have hJ:FK 14 [.slice ((Lx.lexR src).1.map tokC) []] (.str (Ps.joinS src)):=Zer (Lx.lexR src).1 [] (by omega) (by show (Ps.joinS src).length<=_; omega)
 have hv:Ps.AcV (Ps.parseR src).1:=by
  have:=Ps.outE_v (Ps.lexR_val he) src
  unfold Ps.parseR Ps.lexd
  rw[if_pos he]; exact this
 have hS:=saPg (Ps.parseR src).1 (Ps.acv_w hv)
 refine⟨hJ,hL2,hP,hP2, ?_⟩
 rw[g1,g2,g3]
 refine⟨fun h=>absurd rfl h,fun _=>⟨hS,nofun,fun h=>absurd rfl h,fun _=>⟨fun h0=>⟨fun _=> ?_,fun h=>absurd (g4 h0).1 h⟩,fun h0=>⟨fun hat=> ?_,fun hat=> ?_⟩⟩⟩⟩
 ·exact (g4 h0).2
 ·rcases g5 h0 with ⟨_,k2⟩ | ⟨_,_,k2,_⟩
  ·exact k2
  ·exact absurd hat k2
 ·rcases g5 h0 with ⟨k1,_⟩ | ⟨n,n1,n2,n3,n4,n5⟩
  ·exact absurd k1 hat
  ·exact Zit _ _ _ _ n _ _ j2 n1 g3 n3 n4 n5 _ 0 rfl (Nat.zero_le _)
end Go.Proofs.YtecgehidegnmnaaGreatDoor
