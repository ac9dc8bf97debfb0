/- A world in which the listed variables hold what they hold: for the witness. -/
import Derived.Test.YtobgkdlghljdlaaGreatDoorCards
import Derived.Deep.DeepHandedRow
import Derived.Deep.DeepWitnessRowRef
import Derived.Lib.LaidU8
import Derived.ProofKit
set_option linter.unusedSectionVars false
set_option linter.unusedVariables false
set_option linter.unusedSimpArgs false
set_option linter.deprecated false
set_option maxRecDepth 100000
namespace Go.Proofs.YtobgkdlghljdlaaGreatDoor
open Go
mutual
def Z5h:DataW Unit->List Value
 | .lit l=>[l.value]
 | .agg ds=>Z6t ds
 | _=>[]
def Z6t:List (DataW Unit)->List Value
 | []=>[]
 | d::r=>Z5h d++Z6t r
end
noncomputable def Z2a (os:Os):World :=
 let w0:=World.holding Tryz.prog os ⟨#[], #[],[]⟩
 let put (h:Array Obj) (g:Nat) (cs:Array Value):Array Obj:=h.modify g fun
  | .cells _ t frozen=> .cells cs t frozen
  | o=>o
 let h6:=put w0.heap 1 (Z5h Rows.laid_unicode_utf8_first).toArray
 let h9:=put h6 2 (Z5h Rows.laid_unicode_utf8_acceptRanges).toArray
 { w0 with heap:=h9 }
def Z7o (rows:List (Nat × Nat)):List MemPlace:=rows.flatMap fun p=>(List.range p.2).map fun i=>MemPlace.cell p.1 i
theorem Z1Y: ∀ {rows:List (Nat × Nat)},(rows.map (·.1)).Nodup->(Z7o rows).Nodup
 | [],_=>List.nodup_nil
 | (b,n)::r,h=>by
  simp only[List.map_cons,List.nodup_cons] at h
  show (((List.range n).map fun i=>MemPlace.cell b i)++Z7o r).Nodup
  refine List.nodup_append.2 ⟨?_,Z1Y h.2,fun x hx y hy e=> ?_⟩
  ·refine List.Pairwise.map _ ?_ List.nodup_range
   intro a b' hab he
   injection he with _ h2
   exact hab h2
  ·obtain⟨i,_,rfl⟩:=List.mem_map.1 hx
   subst e
   simp only[Z7o,List.mem_flatMap,List.mem_map] at hy
   obtain⟨p,hp,j,_,he⟩:=hy
   injection he with h1 _
   exact h.1 (h1 ▸ List.mem_map.2 ⟨p,hp,rfl⟩)
def ZnC (P:Program) (w:World) (rows:List (Nat × Nat)):Bool:=rows.all fun p=>match w.heap[p.1]? with
 | some (.cells cs _ (0,0))=>cs.toList.all fun v=>match v with
  | .iface u x=>Value.okWideB P w u x
  | _=>true
 | _=>false
theorem Z4m {P:Program} {w:World} {l:List (String × DataW Unit)} (rows:List (Nat × Nat)) (fuel:Nat) (h:DataW.laidRun P w fuel (l.map (·.1))=some (l,Z7o rows))
  (hn:decide (rows.map (·.1)).Nodup=true) (hr:ZnC P w rows=true):laidMet P l w:=by
 refine⟨Z7o rows,DataW.LaidVars_of_laidRun h,Z1Y (of_decide_eq_true hn),fun b off hp=> ?_⟩
 simp only[Z7o,List.mem_flatMap,List.mem_map] at hp
 obtain⟨p,hp,i,_,he⟩:=hp
 injection he with h1 h2
 subst h1
 have:=List.all_eq_true.1 hr p hp
 split at this
 ·rename_i cs t hh
  refine⟨⟨cs,t,hh⟩,fun u v hc=> ?_⟩
  have hmem:Value.iface u v∈cs.toList:=by
   unfold World.cell? at hc
   simp only[hh,Option.isSome_none,Bool.false_eq_true,if_false] at hc
   exact Array.mem_toList_iff.2 (Array.mem_of_getElem? hc)
  have h3:=List.all_eq_true.1 this _ hmem
  exact Value.okWide_of_okWideB h3
 ·cases this
noncomputable def Zbv:List (Nat × Nat):=[(2,32),(1,256)]
end Go.Proofs.YtobgkdlghljdlaaGreatDoor
