/- A world in which the listed variables hold what they hold: for the witness. -/
import Derived.Test.YtaclfbhhekhflaaGreatDoorCards
import Derived.Deep.DeepHandedRow
import Derived.Deep.DeepWitnessRowRef
import Derived.Lib.LaidU8
import Derived.ProofKit
set_option linter.all false
set_option maxRecDepth 100000
namespace Go.Proofs.YtaclfbhhekhflaaGreatDoor
open Go
mutual
def Z7W:DataW Unit->List Value
 |.lit l=>[l.value]
 |.agg ds=>Z9C ds
 |_=>[]
def Z9C:List (DataW Unit)->List Value
 |[]=>[]
 |d::r=>Z7W d++Z9C r
end
noncomputable def Z3R (os:Os):World :=
 let w0:=World.holding Tryz.prog os ⟨#[],#[],[]⟩;let put (h:Array Obj) (g:Nat) (cs:Array Value):Array Obj:=h.modify g λ
  |.cells _ t frozen=>.cells cs t frozen
  |o=>o
 let a:=put w0.heap 1 (Z7W Rows.laid_unicode_utf8_first).toArray;let b:=put a 2 (Z7W Rows.laid_unicode_utf8_acceptRanges).toArray
 {w0 with heap:=b}
def ZaM (a:List (Nat × Nat)):List MemPlace:=a.flatMap λp=>(List.range p.2).map λi=>MemPlace.cell p.1 i
theorem Z3G: ∀ {c:List (Nat × Nat)},(c.map (·.1)).Nodup->(ZaM c).Nodup
 |[],_=>List.nodup_nil
 |(b,n)::r,h=>by
  simp only[List.map_cons,List.nodup_cons] at h;show (((List.range n).map λi=>MemPlace.cell b i)++ZaM r).Nodup;refine List.nodup_append.2 ⟨?_,Z3G h.2,λx hx y g e=>?_⟩
  ·refine List.Pairwise.map _ ?_ List.nodup_range;intro a k d f;injection f with _ h2;exact d h2
  ·obtain⟨i,_,rfl⟩:=List.mem_map.1 hx;subst e;simp only[ZaM,List.mem_flatMap,List.mem_map] at g;obtain⟨p,hp,j,_,f⟩:=g;injection f with h1 _;exact h.1 (h1 ▸ List.mem_map.2 ⟨p,hp,rfl⟩)
def Zu1 (P:Program) (w:World) (a:List (Nat × Nat)):Bool:=a.all λp=>match w.heap[p.1]? with
 |some (.cells cs _ (0,0))=>cs.toList.all λv=>match v with
  |.iface u x=>Value.okWideB P w u x
  |_=>true
 |_=>false
theorem Z6I {P:Program} {w:World} {l:List (String × DataW Unit)} (a:List (Nat × Nat)) (c:Nat) (h:DataW.laidRun P w c (l.map (·.1))=some (l,ZaM a))
  (f:decide (a.map (·.1)).Nodup=true) (hr:Zu1 P w a=true):laidMet P l w:=by
 refine⟨ZaM a,DataW.LaidVars_of_laidRun h,Z3G (of_decide_eq_true f),λb off hp=>?_⟩;simp only[ZaM,List.mem_flatMap,List.mem_map] at hp;obtain⟨p,hp,i,_,e⟩:=hp;injection e with h1 h2;subst h1
 have:=List.all_eq_true.1 hr p hp;split at this
 ·rename_i cs t hh;refine⟨⟨cs,t,hh⟩,λu v hc=>?_⟩;have hmem:Value.iface u v∈cs.toList:=by
   unfold World.cell? at hc;simp only[hh,Option.isSome_none,Bool.false_eq_true,if_false] at hc;exact Array.mem_toList_iff.2 (Array.mem_of_getElem? hc)
  have d:=List.all_eq_true.1 this _ hmem;exact Value.okWide_of_okWideB d
 ·cases this
noncomputable def Zg8:List (Nat × Nat):=[(2,32),(1,256)]
end Go.Proofs.YtaclfbhhekhflaaGreatDoor
