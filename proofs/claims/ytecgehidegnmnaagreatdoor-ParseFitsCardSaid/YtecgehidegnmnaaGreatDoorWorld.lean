/- A world in which the listed variables hold what they hold: for the witness. -/
import Derived.Test.YtecgehidegnmnaaGreatDoorCards
import Derived.Deep.DeepHandedRow
import Derived.Deep.DeepWitnessRowRef
import Derived.Lib.LaidU8
import Derived.ProofKit
set_option linter.all false
set_option maxRecDepth 100000
namespace Go.Proofs.YtecgehidegnmnaaGreatDoor
open Go
mutual
def Z12:DataW Unit->List Value
 |.lit l=>[l.value]
 |.agg ds=>Z6S ds
 |_=>[]
def Z6S:List (DataW Unit)->List Value
 |[]=>[]
 |d::r=>Z12 d++Z6S r
end
def Z8c:DataW Unit:=match Rows.laid_unicode_White_Space (H:=Unit) with
 |.ptr (.agg (.slice es _::_))=>.agg es
 |_=>.nil
def Zde:DataW Unit->Value
 |.iface _ (.ptr (.agg [.lit l]))=>l.value
 |_=>Go.undef
noncomputable def Z2T (os:Os):World :=
 let N:=(World.settled Tryz.prog os).heap.size;let w0:=World.holding Tryz.prog os ⟨#[.cells #[Zde Rows.laid_strconv_ErrRange] 261,.cells #[Zde Rows.laid_strconv_ErrSyntax] 261,.cells (Z12 Z8c).toArray 268,
  .cells #[.slice (some ⟨N+2,0,none⟩) 7 7,.slice none 0 0,.int .i64 2] 265],#[],[]⟩
 let put (h:Array Obj) (g:Nat) (cs:Array Value):Array Obj:=h.modify g λ
  |.cells _ t frozen=>.cells cs t frozen
  |o=>o
 let h1:=put w0.heap 1 (Z12 Rows.laid_strings_asciiSpace).toArray;let h2:=put h1 5 #[.iface 259 (.pointer (some ⟨N+1,0,none⟩))];let a:=put h2 6 #[.iface 259 (.pointer (some ⟨N,0,none⟩))];let b:=put a 7 #[.pointer (some ⟨N+3,0,none⟩)];let c:=put b 4 (Z12 Rows.laid_internal_strconv_uint64pow10).toArray;let d:=put c 2 (Z12 Rows.laid_unicode_utf8_first).toArray;let e:=put d 3 (Z12 Rows.laid_unicode_utf8_acceptRanges).toArray;let f:=put e 8 (Z12 Rows.laid_math_bits_deBruijn32tab).toArray;let i:=put f 9 (Z12 Rows.laid_math_bits_deBruijn64tab).toArray
 {w0 with heap:=i}
def Z7F (a:List (Nat × Nat)):List MemPlace:=a.flatMap λp=>(List.range p.2).map λi=>MemPlace.cell p.1 i
theorem Z2I: ∀ {c:List (Nat × Nat)},(c.map (·.1)).Nodup->(Z7F c).Nodup
 |[],_=>List.nodup_nil
 |(b,n)::r,h=>by
  simp only[List.map_cons,List.nodup_cons] at h;show (((List.range n).map λi=>MemPlace.cell b i)++Z7F r).Nodup;refine List.nodup_append.2 ⟨?_,Z2I h.2,λx hx y g e=>?_⟩
  ·refine List.Pairwise.map _ ?_ List.nodup_range;intro a k d f;injection f with _ h2;exact d h2
  ·obtain⟨i,_,rfl⟩:=List.mem_map.1 hx;subst e;simp only[Z7F,List.mem_flatMap,List.mem_map] at g;obtain⟨p,hp,j,_,f⟩:=g;injection f with h1 _;exact h.1 (h1 ▸ List.mem_map.2 ⟨p,hp,rfl⟩)
def ZkM (P:Program) (w:World) (a:List (Nat × Nat)):Bool:=a.all λp=>match w.heap[p.1]? with
 |some (.cells cs _ (0,0))=>cs.toList.all λv=>match v with
  |.iface u x=>Value.okWideB P w u x
  |_=>true
 |_=>false
theorem Z4V {P:Program} {w:World} {l:List (String × DataW Unit)} (a:List (Nat × Nat)) (c:Nat) (h:DataW.laidRun P w c (l.map (·.1))=some (l,Z7F a))
  (f:decide (a.map (·.1)).Nodup=true) (hr:ZkM P w a=true):laidMet P l w:=by
 refine⟨Z7F a,DataW.LaidVars_of_laidRun h,Z2I (of_decide_eq_true f),λb off hp=>?_⟩;simp only[Z7F,List.mem_flatMap,List.mem_map] at hp;obtain⟨p,hp,i,_,e⟩:=hp;injection e with h1 h2;subst h1
 have:=List.all_eq_true.1 hr p hp;split at this
 ·rename_i cs t hh;refine⟨⟨cs,t,hh⟩,λu v hc=>?_⟩;have hmem:Value.iface u v∈cs.toList:=by
   unfold World.cell? at hc;simp only[hh,Option.isSome_none,Bool.false_eq_true,if_false] at hc;exact Array.mem_toList_iff.2 (Array.mem_of_getElem? hc)
  have d:=List.all_eq_true.1 this _ hmem;exact Value.okWide_of_okWideB d
 ·cases this
noncomputable def nW:Nat:=(World.settled Tryz.prog default).heap.size
noncomputable def ZbR:List (Nat × Nat):=[(8,32),(9,64),(4,20),(3,32),(6,1),(nW,1),(5,1),(nW+1,1),(7,1),(nW+3,3),(nW+2,21),(1,256),(2,256)]
end Go.Proofs.YtecgehidegnmnaaGreatDoor
