/- A world in which the listed variables hold what they hold: for the witness. -/
import Derived.Test.YtecgehidegnmnaaGreatDoorCards
import Derived.Deep.DeepHandedRow
import Derived.Deep.DeepWitnessRowRef
import Derived.Lib.LaidU8
import Derived.ProofKit
set_option linter.unusedSectionVars false
set_option linter.unusedVariables false
set_option linter.unusedSimpArgs false
set_option linter.deprecated false
set_option maxRecDepth 100000
namespace Go.Proofs.YtecgehidegnmnaaGreatDoor
open Go
mutual
def Z0Z:DataW Unit->List Value
 | .lit l=>[l.value]
 | .agg ds=>Z7i ds
 | _=>[]
def Z7i:List (DataW Unit)->List Value
 | []=>[]
 | d::r=>Z0Z d++Z7i r
end
def Z8E:DataW Unit:=match Rows.laid_unicode_White_Space (H:=Unit) with
 | .ptr (.agg (.slice es _::_))=> .agg es
 | _=> .nil
def ZdL:DataW Unit->Value
 | .iface _ (.ptr (.agg [.lit l]))=>l.value
 | _=>Go.undef
noncomputable def Z2Y (os:Os):World :=
 let N:=(World.settled Tryz.prog os).heap.size
 let w0:=World.holding Tryz.prog os ⟨#[.cells #[ZdL Rows.laid_strconv_ErrRange] 261,.cells #[ZdL Rows.laid_strconv_ErrSyntax] 261,.cells (Z0Z Z8E).toArray 268,
  .cells #[.slice (some ⟨N+2,0,none⟩) 7 7,.slice none 0 0,.int .i64 2] 265], #[],[]⟩
 let put (h:Array Obj) (g:Nat) (cs:Array Value):Array Obj:=h.modify g fun
  | .cells _ t frozen=> .cells cs t frozen
  | o=>o
 let h1:=put w0.heap 1 (Z0Z Rows.laid_strings_asciiSpace).toArray
 let h2:=put h1 5 #[.iface 259 (.pointer (some ⟨N+1,0,none⟩))]
 let h3:=put h2 6 #[.iface 259 (.pointer (some ⟨N,0,none⟩))]
 let h4:=put h3 7 #[.pointer (some ⟨N+3,0,none⟩)]
 let h5:=put h4 4 (Z0Z Rows.laid_internal_strconv_uint64pow10).toArray
 let h6:=put h5 2 (Z0Z Rows.laid_unicode_utf8_first).toArray
 let h7:=put h6 3 (Z0Z Rows.laid_unicode_utf8_acceptRanges).toArray
 let h8:=put h7 8 (Z0Z Rows.laid_math_bits_deBruijn32tab).toArray
 let h9:=put h8 9 (Z0Z Rows.laid_math_bits_deBruijn64tab).toArray
 { w0 with heap:=h9 }
def Z87 (rows:List (Nat × Nat)):List MemPlace:=rows.flatMap fun p=>(List.range p.2).map fun i=>MemPlace.cell p.1 i
theorem Z2I: ∀ {rows:List (Nat × Nat)},(rows.map (·.1)).Nodup->(Z87 rows).Nodup
 | [],_=>List.nodup_nil
 | (b,n)::r,h=>by
  simp only[List.map_cons,List.nodup_cons] at h
  show (((List.range n).map fun i=>MemPlace.cell b i)++Z87 r).Nodup
  refine List.nodup_append.2 ⟨?_,Z2I h.2,fun x hx y hy e=> ?_⟩
  ·refine List.Pairwise.map _ ?_ List.nodup_range
   intro a b' hab he
   injection he with _ h2
   exact hab h2
  ·obtain⟨i,_,rfl⟩:=List.mem_map.1 hx
   subst e
   simp only[Z87,List.mem_flatMap,List.mem_map] at hy
   obtain⟨p,hp,j,_,he⟩:=hy
   injection he with h1 _
   exact h.1 (h1 ▸ List.mem_map.2 ⟨p,hp,rfl⟩)
def ZkJ (P:Program) (w:World) (rows:List (Nat × Nat)):Bool:=rows.all fun p=>match w.heap[p.1]? with
 | some (.cells cs _ (0,0))=>cs.toList.all fun v=>match v with
  | .iface u x=>Value.okWideB P w u x
  | _=>true
 | _=>false
theorem Z56 {P:Program} {w:World} {l:List (String × DataW Unit)} (rows:List (Nat × Nat)) (fuel:Nat) (h:DataW.laidRun P w fuel (l.map (·.1))=some (l,Z87 rows))
  (hn:decide (rows.map (·.1)).Nodup=true) (hr:ZkJ P w rows=true):laidMet P l w:=by
 refine⟨Z87 rows,DataW.LaidVars_of_laidRun h,Z2I (of_decide_eq_true hn),fun b off hp=> ?_⟩
 simp only[Z87,List.mem_flatMap,List.mem_map] at hp
 obtain⟨p,hp,i,_,he⟩:=hp
 injection he with h1 h2
 subst h1
 have:=List.all_eq_true.1 hr p hp
 split at this
 ·rename_i cs t hh
  refine⟨⟨cs,t,hh⟩,fun u v hc=> ?_⟩
  have hmem:Value.iface u v∈cs.toList:=by
   unfold World.cell? at hc
   simp only[hh,Option.isSome_none,Bool.false_eq_true,if_false] at hc
   exact Array.mem_toList_iff.2 (Array.mem_of_getElem? hc)
  have h3:=List.all_eq_true.1 this _ hmem
  exact Value.okWide_of_okWideB h3
 ·cases this
noncomputable def nW:Nat:=(World.settled Tryz.prog default).heap.size
noncomputable def Zcj:List (Nat × Nat):=[(8,32),(9,64),(4,20),(3,32),(6,1),(nW,1),(5,1),(nW+1,1),(7,1),(nW+3,3),(nW+2,21),(1,256),(2,256)]
end Go.Proofs.YtecgehidegnmnaaGreatDoor
