/- What the layer wants of the program's variables,out of what a row lists. -/
import Derived.Test.YtecgehidegnmnaaGreatDoorWorld
import Derived.Test.YtecgehidegnmnaaGreatDoorBase
import Derived.Test.YtecgehidegnmnaaGreatDoorShelf
import Derived.Test.YtecgehidegnmnaaGreatDoorSx7
set_option linter.all false
set_option maxRecDepth 100000
namespace Go.Proofs.YtecgehidegnmnaaGreatDoor
open Go.Sx Go.ChangeShapes Go.WideShapes Go.RowKit
theorem ZfK:laidOutB Tryz.prog=true:=by kernel_rfl
theorem own:ownKnob Tryz.prog.godebug=none:=by kernel_rfl
theorem ZhA:Rows.laid_strings_asciiSpace (H:=Unit)=Lib.tabData .u8 Lib.asciiSpaceTab:=by kernel_rfl
theorem Zin:Rows.laid_internal_strconv_uint64pow10 (H:=Unit)=Lib.tabData .u64 Lib.pow10Tab:=by kernel_rfl
theorem gA : Tryz.prog.globalNamed "strings.asciiSpace" = some 1 :=by kernel_rfl
theorem gE : Tryz.prog.globalNamed "strconv.ErrSyntax" = some 5 :=by kernel_rfl
theorem gR : Tryz.prog.globalNamed "strconv.ErrRange" = some 6 :=by kernel_rfl
def Z9f:String:=(Rows.parseAppendsRow.laid.map (·.1)).getD 2 default
theorem gPw:Tryz.prog.globalNamed Z9f=some 4:=by kernel_rfl
theorem gAt:(Tryz.prog.globals[1]?).map (·.type)=some 232:=by kernel_rfl
theorem gEt:(Tryz.prog.globals[5]?).map (·.type)=some 133:=by kernel_rfl
theorem gRt:(Tryz.prog.globals[6]?).map (·.type)=some 133:=by kernel_rfl
theorem gPt:(Tryz.prog.globals[4]?).map (·.type)=some 243:=by kernel_rfl
theorem cA:Tryz.prog.cellsOf 232=256:=by kernel_rfl
theorem cB:Tryz.prog.cellsOf 5=1:=by kernel_rfl
theorem cP:Tryz.prog.cellsOf 243=20:=by kernel_rfl
theorem cU:Tryz.prog.cellsOf 221=1:=by kernel_rfl
theorem Zbf {P:Program} {w:World} {base:Nat} {sp:Nat->Bool} {a:Nat} {t:TypeId} {c:Array (String × TypeId)} {cs:List Value} {d:DataW Unit} {p:List MemPlace} (b:P.underlying t=some (.interface c))
  (h:DataW.trod (λ_=>()) P w base sp false a t cs=some (d,p)):(cs=[.nilIface]/\d=.nil)\/ ∃ u v,cs=[.iface u v]:=by
 cases a with
 |zero=>simp[DataW.trod] at h
 |succ n =>
  unfold DataW.trod at h;rw[b] at h;split at h<;>simp_all
theorem Zdo {W:World} {g:Nat} {nm:String} {n:String} {dd:DataW Unit} {l:List (String × DataW Unit)} (r:laidMet Tryz.prog l W) (q:(nm,.iface n dd)∈l) (o:Tryz.prog.globalNamed nm=some g) (t:(Tryz.prog.globals[g]?).map (·.type)=some 133) :
  RV (memW W) noH (.pointer (some ⟨g,0,none⟩)) (.fptr [.ifc]):=by
 obtain⟨w,x,cs,m,p,f,k,c,s⟩:=Lib.laidMet.reads r q;obtain rfl:=Option.some.inj (o.symm.trans f);obtain rfl:=Option.some.inj (t.symm.trans k);have i: ∃ u v,cs.toList=[.iface u v]:=by
  rcases Zbf Tryz.underlying133 s with⟨_,h⟩|h
  ·cases h
  ·exact h
 obtain⟨u,v,e⟩:=i;have a:W.cell? ⟨g,0,none⟩=some (.iface u v):=by
  have h0:cs[0]? = some (.iface u v):=by
   have:cs.toList[0]? = some (.iface u v):=by rw[e];rfl
   simpa using this
  have:=World.var?_cell o c 0;rw[h0] at this;exact this
 refine .fptr g 0 _ (λ_=>.iface u v) (λj d b=>?_) (λj d b=>?_)
 ·cases j with
  |zero=>exact a
  |succ j=>simp at b
 ·cases j with
  |zero=>simp at b;subst b;exact .ifc u v
  |succ j=>simp at b
theorem Zla {W : World} {l : List (String × DataW Unit)} (v : ("strings.asciiSpace",Rows.laid_strings_asciiSpace) ∈ l) (w : ("strconv.ErrSyntax",Rows.laid_strconv_ErrSyntax) ∈ l) (y : ("strconv.ErrRange",Rows.laid_strconv_ErrRange) ∈ l)
  (x:(Z9f,Rows.laid_internal_strconv_uint64pow10)∈l) (A:W.ShapedOpen Tryz.prog) (s:laidMet Tryz.prog l W):GlobC (memW W) W (λ_=>False):=by
 refine⟨?_,?_,?_⟩
 ·intro g cs b;have c:(if g=1 then some (Lib.asciiSpaceTab.map λz=>D.int .u8 z) else if g=5 then some [D.ifc] else if g=6 then some [D.ifc] else none)=some cs:=b;clear b;split at c
  ·rename_i h1;cases c;subst h1;obtain⟨u,C,cs,n,p,i,k,a,o⟩:=Lib.laidMet.reads s v;obtain rfl:=Option.some.inj (gA.symm.trans i);obtain rfl:=Option.some.inj (gAt.symm.trans k);rw[ZhA] at o;have f:=Lib.cells_of_tab Tryz.underlying232 Tryz.underlying5 cB cA o;have r : Lib.TabIs Tryz.prog W "strings.asciiSpace" .u8 Lib.asciiSpaceTab :=by unfold Lib.TabIs;rw [a,<- f]
   refine .fptr 1 0 _ (λj=>.int .u8 (Lib.asciiSpaceTab.getD j 0)) (λj d q=>?_) (λj d q=>?_)
   ·have t:j<Lib.asciiSpaceTab.length:=by
     rcases Nat.lt_or_ge j Lib.asciiSpaceTab.length with h|h
     ·exact h
     ·rw[List.getElem?_eq_none (by simpa using h)] at q;cases q
    show W.cell? ⟨1,0+j,none⟩=_;rw[Nat.zero_add];exact r.cell gA j t
   ·simp only[List.getElem?_map,Option.map_eq_some_iff] at q;obtain⟨z,B,rfl⟩:=q;have:Lib.asciiSpaceTab.getD j 0=z:=by simp[List.getD,B]
    rw[this];exact .int _ _
  ·split at c
   ·rename_i h1;cases c;subst h1;exact Zdo s w gE gEt
   ·split at c
    ·rename_i h1;cases c;subst h1;exact Zdo s y gR gRt
    ·cases c
 ·intro g arr b;have c:(if g=4 then some (Lib.pow10Tab.map λz=>Value.int .u64 z).toArray else none)=some arr:=b;clear b;split at c
  ·rename_i h1;cases c;subst h1;refine⟨?_,λh=>h⟩;obtain⟨u,C,cs,n,p,i,k,a,o⟩:=Lib.laidMet.reads s x;obtain rfl:=Option.some.inj (gPw.symm.trans i);obtain rfl:=Option.some.inj (gPt.symm.trans k);rw[Zin] at o;have f:=Lib.cells_of_tab Tryz.underlying243 Tryz.underlying221 cU cP o;unfold World.var? at a;rw[gPw] at a;simp only[Option.bind_some] at a;split at a
   ·rename_i cs' ty fr hh;cases a;exact⟨ty,fr,by rw[hh,<- f]⟩
   ·cases a
  ·cases c
 ·intro g b;have c:g=0:=of_decide_eq_true b;subst c;refine⟨?_,λh=>h⟩;obtain⟨m,hm⟩:=Tryz.laysM144.s1_3 W A;have e:W.cell? ⟨0,0,none⟩=some (.int .i64 m):=hm;unfold World.cell? at e;simp only[Option.isSome_none,Bool.false_eq_true,if_false] at e;split at e
  ·rename_i cs ty fr hh;exact⟨cs,ty,fr,m,hh,by simpa using e⟩
  ·cases e
end Go.Proofs.YtecgehidegnmnaaGreatDoor
