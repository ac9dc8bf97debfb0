/- What the layer wants of the program's variables,out of what a row lists. -/
import Derived.Test.YtecgehidegnmnaaGreatDoorWorld
import Derived.Test.YtecgehidegnmnaaGreatDoorBase
import Derived.Test.YtecgehidegnmnaaGreatDoorShelf
import Derived.Test.YtecgehidegnmnaaGreatDoorSx7
set_option linter.unusedSectionVars false
set_option linter.unusedVariables false
set_option linter.unusedSimpArgs false
set_option linter.deprecated false
set_option maxRecDepth 100000
namespace Go.Proofs.YtecgehidegnmnaaGreatDoor
open Go.Sx Go.ChangeShapes Go.WideShapes Go.RowKit
theorem Zgo:laidOutB Tryz.prog=true:=by kernel_rfl
theorem own:ownKnob Tryz.prog.godebug=none:=by kernel_rfl
theorem ZhV:Rows.laid_strings_asciiSpace (H:=Unit)=Lib.tabData .u8 Lib.asciiSpaceTab:=by kernel_rfl
theorem ZiE:Rows.laid_internal_strconv_uint64pow10 (H:=Unit)=Lib.tabData .u64 Lib.pow10Tab:=by kernel_rfl
theorem gA : Tryz.prog.globalNamed "strings.asciiSpace" = some 1 := by kernel_rfl
theorem gE : Tryz.prog.globalNamed "strconv.ErrSyntax" = some 5 := by kernel_rfl
theorem gR : Tryz.prog.globalNamed "strconv.ErrRange" = some 6 := by kernel_rfl
def Z9L:String:=(Rows.parseAppendsRow.laid.map (·.1)).getD 2 default
theorem gPw:Tryz.prog.globalNamed Z9L=some 4:=by kernel_rfl
theorem gAt:(Tryz.prog.globals[1]?).map (·.type)=some 232:=by kernel_rfl
theorem gEt:(Tryz.prog.globals[5]?).map (·.type)=some 133:=by kernel_rfl
theorem gRt:(Tryz.prog.globals[6]?).map (·.type)=some 133:=by kernel_rfl
theorem gPt:(Tryz.prog.globals[4]?).map (·.type)=some 243:=by kernel_rfl
theorem cA:Tryz.prog.cellsOf 232=256:=by kernel_rfl
theorem cB:Tryz.prog.cellsOf 5=1:=by kernel_rfl
theorem cP:Tryz.prog.cellsOf 243=20:=by kernel_rfl
theorem cU:Tryz.prog.cellsOf 221=1:=by kernel_rfl
theorem ZbH {P:Program} {w:World} {base:Nat} {sp:Nat->Bool} {fuel:Nat} {t:TypeId} {ms:Array (String × TypeId)} {cs:List Value} {d:DataW Unit} {p:List MemPlace} (ht:P.underlying t=some (.interface ms))
  (h:DataW.trod (fun _=>()) P w base sp false fuel t cs=some (d,p)):(cs=[.nilIface]/\d= .nil)\/ ∃ u v,cs=[.iface u v]:=by
 cases fuel with
 | zero=>simp[DataW.trod] at h
 | succ n =>
  unfold DataW.trod at h
  rw[ht] at h
  split at h <;> simp_all
theorem ZdT {W:World} {g:Nat} {nm:String} {n:String} {dd:DataW Unit} {l:List (String × DataW Unit)} (hL:laidMet Tryz.prog l W) (hE:(nm,.iface n dd)∈l) (hg:Tryz.prog.globalNamed nm=some g) (ht:(Tryz.prog.globals[g]?).map (·.type)=some 133) :
  RV (memW W) noH (.pointer (some ⟨g,0,none⟩)) (.fptr [.ifc]):=by
 obtain⟨g',t',cs,fuel,p,hg',ht',hvar,hd⟩:=Lib.laidMet.reads hL hE
 obtain rfl:=Option.some.inj (hg.symm.trans hg')
 obtain rfl:=Option.some.inj (ht.symm.trans ht')
 have hif: ∃ u v,cs.toList=[.iface u v]:=by
  rcases ZbH Tryz.underlying133 hd with ⟨_,h⟩ | h
  ·cases h
  ·exact h
 obtain⟨u,v,hcs⟩:=hif
 have hcell:W.cell? ⟨g,0,none⟩=some (.iface u v):=by
  have h0:cs[0]? = some (.iface u v):=by
   have:cs.toList[0]? = some (.iface u v):=by rw[hcs]; rfl
   simpa using this
  have:=World.var?_cell hg hvar 0
  rw[h0] at this
  exact this
 refine .fptr g 0 _ (fun _=> .iface u v) (fun j d hj=> ?_) (fun j d hj=> ?_)
 ·cases j with
  | zero=>exact hcell
  | succ j=>simp at hj
 ·cases j with
  | zero=>simp at hj; subst hj; exact .ifc u v
  | succ j=>simp at hj
theorem Zl7 {W : World} {l : List (String × DataW Unit)} (hA : ("strings.asciiSpace", Rows.laid_strings_asciiSpace) ∈ l) (hE : ("strconv.ErrSyntax", Rows.laid_strconv_ErrSyntax) ∈ l) (hR : ("strconv.ErrRange", Rows.laid_strconv_ErrRange) ∈ l)
  (hP:(Z9L,Rows.laid_internal_strconv_uint64pow10)∈l) (hS:W.ShapedOpen Tryz.prog) (hL:laidMet Tryz.prog l W):GlobC (memW W) W (fun _=>False):=by
 refine⟨?_, ?_, ?_⟩
 ·intro g cs hg0
  have hg:(if g=1 then some (Lib.asciiSpaceTab.map fun z=>D.int .u8 z) else if g=5 then some [D.ifc] else if g=6 then some [D.ifc] else none)=some cs:=hg0
  clear hg0
  split at hg
  ·rename_i h1
   cases hg
   subst h1
   obtain⟨g',t',cs,fuel,p,hg',ht',hvar,hd⟩:=Lib.laidMet.reads hL hA
   obtain rfl:=Option.some.inj (gA.symm.trans hg')
   obtain rfl:=Option.some.inj (gAt.symm.trans ht')
   rw[ZhV] at hd
   have hcs:=Lib.cells_of_tab Tryz.underlying232 Tryz.underlying5 cB cA hd
   have htab : Lib.TabIs Tryz.prog W "strings.asciiSpace" .u8 Lib.asciiSpaceTab := by unfold Lib.TabIs; rw [hvar, <- hcs]
   refine .fptr 1 0 _ (fun j=> .int .u8 (Lib.asciiSpaceTab.getD j 0)) (fun j d hj=> ?_) (fun j d hj=> ?_)
   ·have hjl:j<Lib.asciiSpaceTab.length:=by
     rcases Nat.lt_or_ge j Lib.asciiSpaceTab.length with h | h
     ·exact h
     ·rw[List.getElem?_eq_none (by simpa using h)] at hj; cases hj
    show W.cell? ⟨1,0+j,none⟩=_
    rw[Nat.zero_add]
    exact htab.cell gA j hjl
   ·simp only[List.getElem?_map,Option.map_eq_some_iff] at hj
    obtain⟨z,hz,rfl⟩:=hj
    have:Lib.asciiSpaceTab.getD j 0=z:=by simp[List.getD,hz]
    rw[this]
    exact .int _ _
  ·split at hg
   ·rename_i h1
    cases hg
    subst h1
    exact ZdT hL hE gE gEt
   ·split at hg
    ·rename_i h1
     cases hg
     subst h1
     exact ZdT hL hR gR gRt
    ·cases hg
 ·intro g arr hg0
  have hg:(if g=4 then some (Lib.pow10Tab.map fun z=>Value.int .u64 z).toArray else none)=some arr:=hg0
  clear hg0
  split at hg
  ·rename_i h1
   cases hg
   subst h1
   refine⟨?_,fun h=>h⟩
   obtain⟨g',t',cs,fuel,p,hg',ht',hvar,hd⟩:=Lib.laidMet.reads hL hP
   obtain rfl:=Option.some.inj (gPw.symm.trans hg')
   obtain rfl:=Option.some.inj (gPt.symm.trans ht')
   rw[ZiE] at hd
   have hcs:=Lib.cells_of_tab Tryz.underlying243 Tryz.underlying221 cU cP hd
   unfold World.var? at hvar
   rw[gPw] at hvar
   simp only[Option.bind_some] at hvar
   split at hvar
   ·rename_i cs' ty fr hh
    cases hvar
    exact⟨ty,fr,by rw[hh,<- hcs]⟩
   ·cases hvar
  ·cases hg
 ·intro g hg0
  have hg:g=0:=of_decide_eq_true hg0
  subst hg
  refine⟨?_,fun h=>h⟩
  obtain⟨m,hm⟩:=Tryz.laysM144.s1_3 W hS
  have hm':W.cell? ⟨0,0,none⟩=some (.int .i64 m):=hm
  unfold World.cell? at hm'
  simp only[Option.isSome_none,Bool.false_eq_true,if_false] at hm'
  split at hm'
  ·rename_i cs ty fr hh
   exact⟨cs,ty,fr,m,hh,by simpa using hm'⟩
  ·cases hm'
end Go.Proofs.YtecgehidegnmnaaGreatDoor
