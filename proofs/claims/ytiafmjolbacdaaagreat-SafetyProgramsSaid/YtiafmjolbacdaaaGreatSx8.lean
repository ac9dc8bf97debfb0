/- Own work: a layer over the kit: plain data,a walk over it,its soundness. -/
import Derived.Lib.Bytealg
import Derived.Lib.AtoiAll
import Derived.Lib.ItoaNum
import Derived.Lib.Join
import Derived.Sort.OwnSorted
import Derived.Lib.SlicesCompact
import Derived.Test.YtiafmjolbacdaaaGreatSx7
set_option linter.unusedSectionVars false
set_option linter.unusedVariables false
set_option linter.unusedSimpArgs false
set_option linter.deprecated false
/- TERMS COMPARED,in plain words. -/
namespace Go.Sx

def ncmp (a b : Int) : Int := if a < b then -1 else if b < a then 1 else 0
def rkI (k : Int) : Int := if k = 1 then 0 else if k = 2 then 1 else if k = 4 then 2 else if k = 3 then 3 else if k = 5 then 4 else if k = 6 then 5 else 6 + k
def fst0 : List Int -> Int
 | [] => 0
 | x :: r => if x ≠ 0 then x else fst0 r

mutual
def Tm.cmp : Tm -> Tm -> Int
 | .mk k n s l,b => match b with
  | .mk k' n' s' l' => fst0 [ncmp (rkI k) (rkI k'),if k = 1 then ncmp n n' else 0,ncmp l.length l'.length,Lib.compareBytes s s',Tm.cmpL l l',ncmp n n']
def Tm.cmpL : List Tm -> List Tm -> Int
 | [],q => match q with
  | [] => 0
  | _ :: _ => -1
 | a :: r,q => match q with
  | [] => 1
  | b :: q => if a.cmp b ≠ 0 then a.cmp b else Tm.cmpL r q
end

mutual
def Tm.sz : Tm -> Int -> Int
 | .mk _ _ _ l,m => 1 + Tm.szL l (m - 1) 0
def Tm.szL : List Tm -> Int -> Int -> Int
 | [],m,n => n
 | a :: r,m,n => if n <= m then Tm.szL r m (n + a.sz (m - n)) else n
end

end Go.Sx
namespace Go.Sx
mutual
def Tm.few (N : Nat) : Tm -> Prop
 | .mk _ _ _ l => l.length <= N /\ Tm.fewL N l
def Tm.fewL (N : Nat) : List Tm -> Prop
 | [] => True
 | a :: r => a.few N /\ Tm.fewL N r
end
mutual
theorem sz_ge : ∀ (t : Tm) (m : Int),1 <= t.sz m
 | .mk k n s l,m => by
  have := szL_ge l (m - 1) 0
  simp only [Tm.sz]; omega
theorem szL_ge : ∀ (l : List Tm) (m n : Int),n <= Tm.szL l m n
 | [],m,n => by simp only [Tm.szL]; omega
 | a :: r,m,n => by
  simp only [Tm.szL]
  split
  ·have := szL_ge r m (n + a.sz (m - n))
   have := sz_ge a (m - n)
   omega
  ·omega
end
mutual
theorem sz_le : ∀ (t : Tm) (m : Int),0 <= m -> t.sz m <= m + 1
 | .mk k n s l,m,hm => by
  have := szL_le l (m - 1) 0 (by omega)
  simp only [Tm.sz]; omega
theorem szL_le : ∀ (l : List Tm) (m n : Int),n <= m + 1 -> Tm.szL l m n <= m + 1
 | [],m,n,h => by simp only [Tm.szL]; omega
 | a :: r,m,n,h => by
  simp only [Tm.szL]
  split
  ·have := sz_le a (m - n) (by omega)
   exact szL_le r m _ (by omega)
  ·omega
end
end Go.Sx

/- Plain laws on bytes and lists. -/
namespace Go.Sx
end Go.Sx

/- The lexer,plainly. -/
namespace Go.Sx.Lx
open Go.Sx

def isLow (b : UInt8) : Bool := decide (97 <= b.toNat) && decide (b.toNat <= 122)
def isUp (b : UInt8) : Bool := decide (65 <= b.toNat) && decide (b.toNat <= 90)
def isDig (b : UInt8) : Bool := decide (48 <= b.toNat) && decide (b.toNat <= 57)
def isLet (b : UInt8) : Bool := isLow b || isUp b
def isUnd (b : UInt8) : Bool := b == 95
def isName (b : UInt8) : Bool := isLet b || isDig b || isUnd b
def isBlank (b : UInt8) : Bool := b == 32 || b == 9 || b == 10 || b == 13
def skp : Bool -> List UInt8 -> Nat
 | _,[] => 0
 | false,b :: r => if isBlank b then 1 + skp false r else if b == 37 then 1 + skp true r else 0
 | true,b :: r => if b == 10 then 1 + skp false r else 1 + skp true r

end Go.Sx.Lx
namespace Go.Sx.Lx
def wordB (first : UInt8 -> Bool) (s : List UInt8) : Bool := match s.dropWhile isUnd with
 | [] => false
 | b :: r => first b && (b :: r).all isName && decide (s.length <= 32)
def notS : List UInt8 := [110,111,116]
def symbolB (s : List UInt8) : Bool := wordB isLow s && decide (s ≠ notS)
def variableB (s : List UInt8) : Bool := wordB isUp s || (match s with
 | 95 :: r => r.all isDig && decide (s.length <= 32)
 | _ => false)
end Go.Sx.Lx
namespace Go.Sx
def strC (l : List (List UInt8)) : List (List D) := l.map fun t => [D.str t]
theorem strC_get {l : List (List UInt8)} {i : Nat} (h : i < l.length) : (strC l)[i]? = some [D.str (l.getD i [])] := by
 unfold strC
 rw [List.getElem?_map,List.getElem?_eq_getElem h]
 simp [List.getD,h]
theorem strC_len (l : List (List UInt8)) : (strC l).length = l.length := by simp [strC]
def idxS (t : List UInt8) : List (List UInt8) -> Int -> Int
 | [],_ => -1
 | x :: r,i => if t = x then i else idxS t r (i + 1)
end Go.Sx
namespace Go.Sx.Lx
def signL : List (List UInt8) := [[58,45],[58,126],[58],[46,46],[46],[44],[59],[124],[40],[41],[123],[125],[91],[93],[61],[33,61],[60,61],[62,61],[60],[62],[43],[45],[42],[47],[92],[64]]
def signOf (s : List UInt8) : List UInt8 := (signL.find? (·.isPrefixOf s)).getD []
end Go.Sx.Lx
namespace Go.Sx.Lx
def wordK (s : List UInt8) : Int × Int := if s = notS then (4,0) else if symbolB s = true then (1,0) else if variableB s = true then (2,0) else (0,31)
def dirs : List (List UInt8) := [[35,99,111,110,115,116],[35,115,104,111,119],[35,109,105,110,105,109,105,122,101],[35,99,111,117,110,116],[35,115,117,109]]
def numE (s : List UInt8) : Int := match Lib.atoiAll s with
 | .ok n => if 2147483647 < n then 32 else if Lib.itoa n = s then 0 else 32
 | _ => 32
def tok (s : List UInt8) : Int × List UInt8 × Int := match s with
 | [] => (0,[],0)
 | b :: r =>
  if isLet b || isUnd b then ((wordK (s.takeWhile isName)).1,s.takeWhile isName,(wordK (s.takeWhile isName)).2)
  else if isDig b then (3,s.takeWhile isDig,numE (s.takeWhile isDig))
  else if b == 35 then (5,35 :: r.takeWhile isLet,if 35 :: r.takeWhile isLet ∈ dirs then 0 else 31)
  else (6,signOf s,if signOf s = [] then 30 else 0)
end Go.Sx.Lx
namespace Go.Sx.Lx
abbrev Tk := Int × List UInt8 × Int
def toksF : Nat -> Nat -> List UInt8 -> List Tk × Option (Nat × Int) × Nat
 | 0,o,_ => ([],none,o)
 | _ + 1,o,[] => ([],none,o)
 | f + 1,o,b :: r =>
  if (tok (b :: r)).2.2 = 0 then
   let n := (tok (b :: r)).2.1.length
   let k := skp false ((b :: r).drop n)
   let q := toksF f (o + n + k) ((b :: r).drop (n + k))
   (((tok (b :: r)).1,(tok (b :: r)).2.1,(o : Int)) :: q.1,q.2)
  else ([],some (o,(tok (b :: r)).2.2),o + (tok (b :: r)).2.1.length)
end Go.Sx.Lx
namespace Go.Sx.Lx
end Go.Sx.Lx
namespace Go.Sx.Lx
def pickG (n m : Int) : Int := if n.tmod m < 0 then n.tmod m + m else n.tmod m
end Go.Sx.Lx

/- All subterms of a term. -/
namespace Go.Sx
mutual
def Tm.all (h : Tm -> Bool) : Tm -> Bool
 | .mk k n s l => h (.mk k n s l) && Tm.allL h l
def Tm.allL (h : Tm -> Bool) : List Tm -> Bool
 | [] => true
 | a :: r => a.all h && Tm.allL h r
end
mutual
def Tm.depth : Tm -> Nat
 | .mk _ _ _ l => Tm.depthL l + 1
def Tm.depthL : List Tm -> Nat
 | [] => 0
 | a :: r => Nat.max a.depth (Tm.depthL r)
end
end Go.Sx
namespace Go.Sx
def shapeB (k n : Int) (s : List UInt8) (len : Nat) : Bool :=
 if k = 1 then decide (-2147483647 <= n) && decide (n <= 2147483647) && decide (s = []) && decide (len = 0)
 else if k = 2 then decide (n = 0) && Lx.symbolB s && decide (len = 0)
 else if k = 3 then decide (n = 0) && Lx.variableB s && decide (len = 0)
 else if k = 4 then decide (n = 0) && Lx.symbolB s && decide (1 <= len) && decide (len <= 8)
 else if k = 5 then decide (n = 0) && (decide (s = [43]) || decide (s = [45]) || decide (s = [42]) || decide (s = [47]) || decide (s = [92])) && (decide (len = 2) || decide (s = [45]) && decide (len = 1))
 else if k = 6 then decide (n = 0) && decide (s = []) && decide (len = 2)
 else false
def Tm.shape : Tm -> Bool
 | .mk k n s l => shapeB k n s l.length
def Tm.valid (t : Tm) : Bool := decide (t.depth <= 12) && t.all Tm.shape
end Go.Sx

/- Laws of the lexer. -/
namespace Go.Sx.Lx
open Go.Sx

def run (o : Nat) (l : List UInt8) : List Tk × Option (Nat × Int) × Nat := toksF (l.length + 1) (o + skp false l) (l.drop (skp false l))
def shift (d : Nat) (r : List Tk × Option (Nat × Int) × Nat) : List Tk × Option (Nat × Int) × Nat := (r.1.map fun t => (t.1,t.2.1,t.2.2 + d),r.2.1.map fun e => (e.1 + d,e.2),r.2.2 + d)
end Go.Sx.Lx
namespace Go.Sx.Lx
end Go.Sx.Lx
namespace Go.Sx.Lx
end Go.Sx.Lx
namespace Go.Sx.Lx
end Go.Sx.Lx
namespace Go.Sx.Lx
def fills : List (List UInt8) := [[32],[10],[9,32],[37,10],[32,37,32,97,46,32,35,120,10],[13,10]]
def pickF (g : Int) : Int := pickG g 6
def fillOf (g : Int) : List UInt8 := fills.getD (pickF g).toNat []
def gapF (gs : List Int) (i : Nat) : Int := if i < gs.length then gs.getD i 0 else i
def finB (gs : List Int) : Nat -> List Tk -> List UInt8 -> List Int -> List UInt8 × List Int
 | _,[],s,o => (s,o)
 | i,t :: r,s,o => finB gs (i + 1) r (s ++ fillOf (gapF gs i) ++ t.2.1) (o ++ [((s ++ fillOf (gapF gs i)).length : Int)])
end Go.Sx.Lx

/- The reference model's lexer,plainly: its tests are the lexer's. -/
namespace Go.Sx.Lx
open Go.Sx
end Go.Sx.Lx

/- Numbers and signs of the reference model. -/
namespace Go.Sx.Lx
open Go.Sx
def valN (a : Nat) (l : List UInt8) : Nat := l.foldl (fun a c => a * 10 + (c.toNat - 48)) a
attribute [irreducible] valN
end Go.Sx.Lx

/- The lexer's run,byte by byte. -/
namespace Go.Sx.Lx
open Go.Sx
/- What a token is,by its first byte. -/
end Go.Sx.Lx

/- OWN ROWS OF TEXTS,SORTED AND MADE COMPACT IN PLACE BY THE LIBRARY. -/
namespace Go.Sx
open Go.RowKit Go.Sort
open Go.Proofs (encStr)
variable [Globs] [Codes]
variable {P : Program} {f : FuncId}

def srt (l : List (List UInt8)) : List (List UInt8) := l.mergeSort fun x y => decide (x <= y)
theorem encS (s : List UInt8) : encStr s = .string ⟨s.toArray⟩ := rfl

theorem arrS {own : Nat -> Prop} {fz : Bool} {ty : TypeId} {φ : Mem} {h : Nat -> Value} {w : World} {hv : Value} {l : List (List UInt8)} (ho : ObR own φ h w hv (.arr fz 1 ty (strC l))) (hne : l ≠ []) :
  ∃ g cap cur,hv = .slice (some ⟨g,0,none⟩) l.length cap /\ own g /\ w.heap[g]? = some (.cells cur ty (0,0)) /\ l.length <= cap /\ cap <= maxLen /\ cur.size = cap * 1 /\ cur.toList.take l.length = l.map encStr ∧
   ∀ o,φ g o = if fz = true /\ o < l.length then some (encStr (l.getD o [])) else none := by
 obtain ⟨_,hsz,xs,hown,hrep,hb⟩ := ho
 have hlen : (strC l).length = l.length := strC_len l
 rw [hlen] at hown hb
 have hxs : xs = l.map encStr := by
  have hl := hown.1
  rw [Nat.mul_one] at hl
  apply List.ext_getElem (by simpa using hl)
  intro i h1 h2
  simp at h2
  have := hrep i _ 0 (D.str (l.getD i [])) (strC_get h2) rfl
  simp only [Nat.mul_one,Nat.add_zero] at this
  have h3 := (RV.pure (h := h) this).str_inv
  rw [List.getD_eq_getElem?_getD,List.getElem?_eq_getElem h1,Option.getD_some] at h3
  rw [h3,List.getElem_map,encS]
  simp [List.getD,h2]
 subst hxs
 rcases hown.2 with ⟨_,h0⟩ | ⟨g,cap,cur,hv',_,hblk,hn,hcap,hcs,htk⟩
 ·exact absurd (List.length_eq_zero_iff.1 h0) hne
 ·have hb2 := hb g (by rw [hv']; rfl)
  refine ⟨g,cap,cur,hv',hb2.1,hblk,hn,hcap,hcs,by rw [Nat.mul_one] at htk; exact htk,fun o => ?_⟩
  rw [hb2.2 o,Nat.mul_one]
  by_cases ho : fz = true /\ o < l.length
  ·rw [if_pos ho,if_pos ho,List.getElem?_map,List.getElem?_eq_getElem ho.2,List.getD_eq_getElem?_getD,List.getElem?_eq_getElem ho.2]
   rfl
  ·rw [if_neg ho,if_neg ho]

theorem arrS_mk {own : Nat -> Prop} {fz : Bool} {ty : TypeId} {φ : Mem} {h : Nat -> Value} {w : World} {g cap : Nat} {cur : Array Value} {l : List (List UInt8)} (ho : own g) (hblk : w.heap[g]? = some (.cells cur ty (0,0))) (hn : l.length <= cap) (hcap : cap <= maxLen) (hcs : cur.size = cap * 1) (htk : cur.toList.take l.length = l.map encStr)
  (hφ : ∀ o,φ g o = if fz = true /\ o < l.length then some (encStr (l.getD o [])) else none) : ObR own φ h w (.slice (some ⟨g,0,none⟩) l.length cap) (.arr fz 1 ty (strC l)) := by
 refine ⟨by decide,fun x hx => ?_,l.map encStr, ?_,fun i x j d hi hj => ?_,fun b hb => ?_⟩
 ·unfold strC at hx
  obtain ⟨t,_,rfl⟩ := List.mem_map.1 hx
  rfl
 ·rw [strC_len]
  exact ⟨by simp,.inr ⟨g,cap,cur,rfl,Nat.zero_le _,hblk,hn,hcap,hcs,by rw [Nat.mul_one]; exact htk⟩⟩
 ·have hi2 : i < l.length := by
   rcases Nat.lt_or_ge i l.length with h | h
   ·exact h
   ·rw [List.getElem?_eq_none (by rw [strC_len]; exact h)] at hi; cases hi
  rw [strC_get hi2] at hi
  cases hi
  cases j with
  | succ j => simp at hj
  | zero =>
   cases hj
   rw [Nat.mul_one,Nat.add_zero,List.getD_eq_getElem?_getD,List.getElem?_map,List.getElem?_eq_getElem hi2,Option.map_some,Option.getD_some,encS]
   have := Rep.str (φ := φ) (l.getD i [])
   simpa [List.getD,hi2] using this
 ·cases hb
  refine ⟨ho,fun o => ?_⟩
  rw [hφ o,strC_len,Nat.mul_one]
  by_cases h : fz = true /\ o < l.length
  ·rw [if_pos h,if_pos h,List.getElem?_map,List.getElem?_eq_getElem h.2,List.getD_eq_getElem?_getD,List.getElem?_eq_getElem h.2]
   rfl
  ·rw [if_neg h,if_neg h]

theorem CallL.sortS (hpf : pureF P f = true) (H : ∀ (blk cap : Nat) (ss : List (List UInt8)) (w : World),Holds encStr w blk 0 ss.toArray -> blk < w.heap.size -> ss.length < 4611686018427387904 →
   Calls P f #[.slice (some ⟨blk,0,none⟩) ss.length cap] w fun e w' => e = .returned (.tuple #[]) /\ ∃ n os,w' = grow (putRow encStr (Sort.ahead w n) blk 0 (ss.mergeSort fun x y => decide (x <= y)).toArray) os)
  (ty : TypeId) (l : List (List UInt8)) (hne : l ≠ []) (hlt : l.length < 4611686018427387904) : CallL P (.func (.func f) [] []) [.vec 0] [(0,.arr false 1 ty (strC l))] fun r ob => r = .tuple [] /\ ob = [(0,.arr false 1 ty (strC (srt l)))] := by
 intro F hF n φ h w v vs hp hv hvs
 obtain ⟨va,vc,rfl,hva,hvc⟩ : ∃ va vc,v = .func (.func f) va vc /\ va.size = 0 /\ vc.size = 0 := by
  cases hv with
  | pure hr => cases hr
  | func _ vf vc _ _ hf hc _ _ => exact ⟨vf,vc,rfl,hf,hc⟩
 obtain ⟨u,rfl,hu⟩ := vs1 hvs
 have hu' := hu.vec_inv
 subst hu'
 rw [run_callv_func hpf]
 have ea : va = #[] := by simpa using hva
 have ec : vc = #[] := by simpa using hvc
 subst ea; subst ec
 simp only [Array.empty_append,Array.append_empty,DynOut]
 obtain ⟨g,cap,cur,hh,_,hblk,hn,hcap,hcs,htk,hφ⟩ := arrS (hp.obj 0 _ rfl) hne
 have hφ0 : ∀ o,φ g o = none := fun o => by rw [hφ o]; rfl
 have hZ : ZOf [(0,Ob.arr false 1 ty (strC l))] h g := ⟨0,rfl,by rw [hh]; rfl⟩
 have hg : g < w.heap.size := (Array.getElem?_eq_some_iff.1 hblk).1
 rw [hh]
 refine hF.calls ((H g cap l w (holds_of_block hblk htk) hg hlt).mono ?_) n
 rintro e w' ⟨rfl,m,os,rfl⟩
 have hsl : (srt l).length = l.length := by unfold srt; simp
 have hG := grownBy_sorted (w := w) (g := g) (n := m) (os := os) (srt l).toArray
 have hS := heap_sorted (n := m) (os := os) (srt l).toArray hblk
 have hT := take_putCells cur (srt l) (by rw [hsl]; omega)
 show Post _ φ h w _ _ (grow (putRow encStr (Sort.ahead w m) g 0 (srt l).toArray) os)
 generalize grow (putRow encStr (Sort.ahead w m) g 0 (srt l).toArray) os = w' at hG hS
 have hfr : ∀ b,b < w.heap.size -> b ≠ g -> w'.heap[b]? = w.heap[b]? := fun b hb hne => hG.block b hb (by simpa using hne)
 have hold : ∀ b o,w.heap[b]? = some o -> b ≠ g -> w'.heap[b]? = some o := fun b o hb hne => by rw [hfr b (Array.getElem?_eq_some_iff.1 hb).1 hne,hb]
 have hZe : ∀ b,ZOf [(0,Ob.arr false 1 ty (strC (srt l)))] h b -> ZOf [(0,Ob.arr false 1 ty (strC l))] h b := by
  rintro b ⟨i,hi,hb⟩
  cases i with
  | zero => exact ⟨0,rfl,hb⟩
  | succ i => simp [lk] at hi
 refine .ret ⟨rfl,rfl⟩ (.tuple _ _ rfl (by simp)) (φ' := φ) (h' := h) ⟨⟨hp.one,⟨hp.glob.ok,fun g' arr hx => ?_,fun g' hx => ?_⟩,fun b o u hu => ?_,fun i ob hob => ?_,fun i j b hi hj _ _ => ?_⟩,fun _ _ _ h => h,fun b o u h1 h2 => (by rw [h1] at h2; cases h2),fun b hb hz => hfr b hb fun e => hz (e ▸ hZ),fun _ _ => rfl,hG.os,hG.tape,hG.output,hG.size⟩
 ·obtain ⟨⟨ty',fr,hw⟩,hz⟩ := hp.glob.x g' arr hx
  exact ⟨⟨ty',fr,hold _ _ hw fun e => hz (e ▸ hZ)⟩,fun hz' => hz (hZe _ hz')⟩
 ·obtain ⟨⟨arr,ty',fr,q,hw,ha⟩,hz⟩ := hp.glob.i g' hx
  exact ⟨⟨arr,ty',fr,q,hold _ _ hw fun e => hz (e ▸ hZ),ha⟩,fun hz' => hz (hZe _ hz')⟩
 ·have hbg : b ≠ g := fun e => by rw [e,hφ0 o] at hu; cases hu
  have hlt : b < w.heap.size := Sub.lt (w := w) hp.mem hu
  rw [World.cell?_of_block (a := ⟨b,o,none⟩) (hfr b hlt hbg)]
  exact hp.mem b o u hu
 ·cases i with
  | succ i => simp [lk] at hob
  | zero =>
   simp only [lk,if_true,Option.some.injEq] at hob
   subst hob
   rw [hh,<- hsl]
   exact arrS_mk (.inr hZ) hS (by omega) hcap (by simpa [putCells] using hcs) hT fun o => by rw [hφ0 o]; rfl
 ·cases i with
  | succ i => simp [lk] at hi
  | zero => cases j with
   | succ j => simp [lk] at hj
   | zero => rfl

theorem cpt_len (l : List (List UInt8)) : (Lib.compact l).length <= l.length := by
 unfold Lib.compact Lib.compactUpTo
 rw [List.length_map]
 refine Nat.le_trans (List.length_filter_le _ _) ?_
 simp
theorem cpt_take {cur : Array Value} {l : List (List UInt8)} {d : List (List UInt8)} (hd : d.length <= cur.size) {k : Nat} (hk : k <= d.length) : (putCells encStr 0 d.toArray cur).toList.take k = (d.take k).map encStr := by
 have h := take_putCells cur d hd
 rw [<- List.map_take.symm,<- h,List.take_take,Nat.min_eq_left hk]
def memG (φ : Mem) (g : Nat) (k : List (List UInt8)) : Mem := fun b o => if b = g then (if o < k.length then some (encStr (k.getD o [])) else none) else φ b o
theorem CallL.compactS (hpf : pureF P f = true) (H : ∀ (blk cap : Nat) (zs : List (List UInt8)) (w : World),Holds encStr w blk 0 zs.toArray -> zs.length <= 9223372036854775807 -> zs.length <= cap →
   Calls P f #[.slice (some ⟨blk,0,none⟩) zs.length cap] w fun e w' => e = .returned (.slice (some ⟨blk,0,none⟩) (Lib.compact zs).length cap) /\ ∃ q,w' = putRow encStr (Sort.ahead w q) blk 0 (Lib.compact zs ++ List.replicate (zs.length - (Lib.compact zs).length) []).toArray)
  (ty : TypeId) (l : List (List UInt8)) (hne : l ≠ []) (hlt : l.length < 4611686018427387904) : CallL P (.func (.func f) [] []) [.vec 0] [(0,.arr false 1 ty (strC l))] fun r ob => r = .vec 1 /\ ob = [(1,.arr true 1 ty (strC (Lib.compact l)))] := by
 intro F hF n φ h w v vs hp hv hvs
 obtain ⟨va,vc,rfl,hva,hvc⟩ : ∃ va vc,v = .func (.func f) va vc /\ va.size = 0 /\ vc.size = 0 := by
  cases hv with
  | pure hr => cases hr
  | func _ vf vc _ _ hf hc _ _ => exact ⟨vf,vc,rfl,hf,hc⟩
 obtain ⟨u,rfl,hu⟩ := vs1 hvs
 have hu' := hu.vec_inv
 subst hu'
 rw [run_callv_func hpf]
 have ea : va = #[] := by simpa using hva
 have ec : vc = #[] := by simpa using hvc
 subst ea; subst ec
 simp only [Array.empty_append,Array.append_empty,DynOut]
 obtain ⟨g,cap,cur,hh,_,hblk,hn,hcap,hcs,htk,hφ⟩ := arrS (hp.obj 0 _ rfl) hne
 have hφ0 : ∀ o,φ g o = none := fun o => by rw [hφ o]; rfl
 have hZ : ZOf [(0,Ob.arr false 1 ty (strC l))] h g := ⟨0,rfl,by rw [hh]; rfl⟩
 have hg : g < w.heap.size := (Array.getElem?_eq_some_iff.1 hblk).1
 rw [hh]
 refine hF.calls ((H g cap l w (holds_of_block hblk htk) (by omega) hn).mono ?_) n
 rintro e w' ⟨rfl,m,rfl⟩
 have hcl := cpt_len l
 have hdl : (Lib.compact l ++ List.replicate (l.length - (Lib.compact l).length) []).length = l.length := by simp; omega
 have hG := grownBy_sorted (w := w) (g := g) (n := m) (os := #[]) (Lib.compact l ++ List.replicate (l.length - (Lib.compact l).length) []).toArray
 have hS := heap_sorted (n := m) (os := #[]) (Lib.compact l ++ List.replicate (l.length - (Lib.compact l).length) []).toArray hblk
 have hT := cpt_take (cur := cur) (l := l) (d := Lib.compact l ++ List.replicate (l.length - (Lib.compact l).length) []) (by rw [hdl]; omega) (k := (Lib.compact l).length) (by rw [hdl]; exact hcl)
 rw [List.take_left] at hT
 rw [grow_empty] at hG hS
 generalize putRow encStr (Sort.ahead w m) g 0 (Lib.compact l ++ List.replicate (l.length - (Lib.compact l).length) []).toArray = w' at hG hS ⊢
 generalize hcur : putCells encStr 0 (Lib.compact l ++ List.replicate (l.length - (Lib.compact l).length) []).toArray cur = cur' at hS hT
 have hcs' : cur'.size = cap * 1 := by rw [<- hcur]; simpa [putCells] using hcs
 generalize Lib.compact l = k at hcl hT ⊢
 have hfr : ∀ b,b < w.heap.size -> b ≠ g -> w'.heap[b]? = w.heap[b]? := fun b hb hne => hG.block b hb (by simpa using hne)
 have hold : ∀ b o,w.heap[b]? = some o -> b ≠ g -> w'.heap[b]? = some o := fun b o hb hne => by rw [hfr b (Array.getElem?_eq_some_iff.1 hb).1 hne,hb]
 have hh1 : updH h 1 (.slice (some ⟨g,0,none⟩) k.length cap) 1 = .slice (some ⟨g,0,none⟩) k.length cap := upd_same ..
 have hZe : ∀ b,ZOf [(1,Ob.arr true 1 ty (strC k))] (updH h 1 (.slice (some ⟨g,0,none⟩) k.length cap)) b -> ZOf [(0,Ob.arr false 1 ty (strC l))] h b := by
  rintro b ⟨i,hi,hb⟩
  simp only [lk] at hi
  split at hi
  ·rename_i e
   subst e
   rw [hh1] at hb
   simp only [blk,Option.some.injEq] at hb
   exact hb ▸ hZ
  ·cases hi
 obtain ⟨φ',hφd⟩ : ∃ m,m = memG φ g k := ⟨_,rfl⟩
 have hφn : ∀ b o,b ≠ g -> φ' b o = φ b o := fun b o hb => by rw [hφd]; exact if_neg hb
 have hφ' : ∀ b o v,φ b o = some v -> φ' b o = some v := fun b o v hv => by
  have hbg : b ≠ g := fun e => by rw [e,hφ0 o] at hv; cases hv
  rw [hφn b o hbg]; exact hv
 have hφg : ∀ o,φ' g o = if o < k.length then some (encStr (k.getD o [])) else none := fun o => by rw [hφd]; exact if_pos rfl
 have hcell : ∀ o,o < k.length -> w'.cell? ⟨g,o,none⟩ = some (encStr (k.getD o [])) := fun o ho => by
  have h1 : (cur'.toList.take k.length)[o]? = (k.map encStr)[o]? := by rw [hT]
  rw [List.getElem?_take_of_lt ho,List.getElem?_map,List.getElem?_eq_getElem ho,Option.map_some,Array.getElem?_toList] at h1
  simp only [World.cell?,hS,h1,List.getD_eq_getElem?_getD,List.getElem?_eq_getElem ho,Option.getD_some]
  rfl
 refine .ret ⟨rfl,rfl⟩ (φ' := φ') (h' := updH h 1 (.slice (some ⟨g,0,none⟩) k.length cap)) ?_ ⟨⟨fun i => ?_,⟨fun g' cs hgc => (hp.glob.ok g' cs hgc).mono hφ',fun g' arr hx => ?_,fun g' hx => ?_⟩,fun b o u hu => ?_,fun i ob hob => ?_,fun i j b hi hj _ _ => ?_⟩,hφ',fun b o u h1 h2 => ?_,fun b hb hz => hfr b hb fun e => hz (e ▸ hZ),fun i hi => ?_,hG.os,hG.tape,hG.output,hG.size⟩
 ·have := RV.vec (φ := φ') (h := updH h 1 (.slice (some ⟨g,0,none⟩) k.length cap)) 1 (by rw [hh1]; rfl)
  rw [hh1] at this
  exact this
 ·by_cases hi : i = 1
  ·subst hi; rw [hh1]; rfl
  ·rw [upd_other _ _ hi]; exact hp.one i
 ·obtain ⟨⟨ty',fr,hw⟩,hz⟩ := hp.glob.x g' arr hx
  exact ⟨⟨ty',fr,hold _ _ hw fun e => hz (e ▸ hZ)⟩,fun hz' => hz (hZe _ hz')⟩
 ·obtain ⟨⟨arr,ty',fr,q,hw,ha⟩,hz⟩ := hp.glob.i g' hx
  exact ⟨⟨arr,ty',fr,q,hold _ _ hw fun e => hz (e ▸ hZ),ha⟩,fun hz' => hz (hZe _ hz')⟩
 ·by_cases hbg : b = g
  ·subst hbg
   rw [hφg] at hu
   split at hu
   ·rename_i ho
    rw [hcell o ho]; exact hu
   ·cases hu
  ·have hu' : φ b o = some u := by
    rw [<- hφn b o hbg]; exact hu
   have hlt : b < w.heap.size := Sub.lt (w := w) hp.mem hu'
   rw [World.cell?_of_block (a := ⟨b,o,none⟩) (hfr b hlt hbg)]
   exact hp.mem b o u hu'
 ·simp only [lk] at hob
  split at hob
  ·rename_i e
   subst e
   cases hob
   rw [hh1]
   exact arrS_mk (.inr hZ) hS (by omega) hcap hcs' hT fun o => by rw [hφg o]; simp
  ·cases hob
 ·simp only [lk] at hi hj
  split at hi
  ·split at hj
   ·omega
   ·cases hj
  ·cases hi
 ·by_cases hbg : b = g
  ·exact .inr (hbg ▸ hZ)
  ·rw [hφn b o hbg,h2] at h1; cases h1
 ·have : i ≠ 1 := fun e => by rw [e] at hi; simp [lk] at hi
  exact upd_other _ _ this
theorem After.same {φ : Mem} {h : Nat -> Value} {w : World} {ob : Obs} (hp : Loc (fun _ => True) ob φ h w) : After [] φ h w [] φ h w :=
 ⟨⟨hp.one,hp.glob.sub fun b ⟨i,hi,_⟩ => by simp [lk] at hi,hp.mem,fun i o ho => by simp [lk] at ho,fun i j b hi => by simp [lk] at hi⟩,fun _ _ _ h => h,fun b o u h1 h2 => (by rw [h1] at h2; cases h2),fun _ _ _ => rfl,fun _ _ => rfl,rfl,rfl,rfl,Nat.le_refl _⟩
theorem nil_inv {φ : Mem} {h : Nat -> Value} {v : Value} (hv : RV φ h v (.slice [] [])) : ∃ p c,v = .slice p 0 c := by
 cases hv with
 | pure hr => cases hr with
  | nil => exact ⟨none,0,rfl⟩
  | nilA a c => exact ⟨some a,c,rfl⟩
  | slice b off cap sz _ _ vals _ _ _ _ => exact ⟨some ⟨b,off,none⟩,cap,rfl⟩
theorem CallL.sortN (hpf : pureF P f = true) (H : ∀ (p : Option Addr) (cap : Nat) (w : World),Calls P f #[.slice p 0 cap] w fun e w' => e = .returned (.tuple #[]) /\ w' = w) : CallL P (.func (.func f) [] []) [.slice [] []] [] fun r ob => r = .tuple [] /\ ob = [] := by
 intro F hF n φ h w v vs hp hv hvs
 obtain ⟨va,vc,rfl,hva,hvc⟩ : ∃ va vc,v = .func (.func f) va vc /\ va.size = 0 /\ vc.size = 0 := by
  cases hv with
  | pure hr => cases hr
  | func _ vf vc _ _ hf hc _ _ => exact ⟨vf,vc,rfl,hf,hc⟩
 obtain ⟨u,rfl,hu⟩ := vs1 hvs
 obtain ⟨p,c,rfl⟩ := nil_inv hu
 rw [run_callv_func hpf]
 have ea : va = #[] := by simpa using hva
 have ec : vc = #[] := by simpa using hvc
 subst ea; subst ec
 simp only [Array.empty_append,Array.append_empty,DynOut]
 refine hF.calls ((H p c w).mono ?_) n
 rintro e w' ⟨rfl,rfl⟩
 exact .ret ⟨rfl,rfl⟩ (φ' := φ) (h' := h) (.tuple _ _ rfl (by simp)) (After.same hp)
theorem CallL.compactN (hpf : pureF P f = true) (H : ∀ (p : Option Addr) (cap : Nat) (w : World),Calls P f #[.slice p 0 cap] w fun e w' => e = .returned (.slice p 0 cap) /\ w' = w) : CallL P (.func (.func f) [] []) [.slice [] []] [] fun r ob => r = .slice [] [] /\ ob = [] := by
 intro F hF n φ h w v vs hp hv hvs
 obtain ⟨va,vc,rfl,hva,hvc⟩ : ∃ va vc,v = .func (.func f) va vc /\ va.size = 0 /\ vc.size = 0 := by
  cases hv with
  | pure hr => cases hr
  | func _ vf vc _ _ hf hc _ _ => exact ⟨vf,vc,rfl,hf,hc⟩
 obtain ⟨u,rfl,hu⟩ := vs1 hvs
 obtain ⟨p,c,rfl⟩ := nil_inv hu
 rw [run_callv_func hpf]
 have ea : va = #[] := by simpa using hva
 have ec : vc = #[] := by simpa using hvc
 subst ea; subst ec
 simp only [Array.empty_append,Array.append_empty,DynOut]
 refine hF.calls ((H p c w).mono ?_) n
 rintro e w' ⟨rfl,rfl⟩
 exact .ret ⟨rfl,rfl⟩ (φ' := φ) (h' := h) hu (After.same hp)
theorem strC_app (a b : List (List UInt8)) : strC (a ++ b) = strC a ++ strC b := by simp [strC]
theorem FnOK.freezeS {args : List D} {ty : TypeId} {l : List (List UInt8)} (h : FnOK P f args (.own 1 ty (strC l))) (hne : l ≠ []) : FnOK P f args (.slice (strC l) []) := by
 intro φ hh w vs h1 h2 h3 h4 h5
 refine (h φ hh w vs h1 h2 h3 h4 h5).mono ?_
 rintro e w' ⟨v,φ',rfl,hR,rest⟩
 refine ⟨v,φ',rfl, ?_,rest⟩
 obtain ⟨g,cap,cur,rfl,_,_,hn,_,_,_,hφ⟩ := arrS (h := noH) hR hne
 intro h'
 have hlen : (strC l).length = l.length := strC_len l
 have key : ∀ i e,(strC l ++ [])[i]? = some e -> i < l.length /\ e = [D.str (l.getD i [])] := fun i e he => by
  rw [List.append_nil] at he
  have hi : i < l.length := by
   rcases Nat.lt_or_ge i l.length with h | h
   ·exact h
   ·rw [List.getElem?_eq_none (by rw [hlen]; exact h)] at he; cases he
  rw [strC_get hi] at he
  exact ⟨hi,by cases he; rfl⟩
 refine .pure ?_
 conv => arg 2; rw [<- hlen]
 refine .slice g 0 cap 1 _ _ (fun i j => encStr (l.getD i [])) (by rw [hlen]; simpa using hn) (fun e he => ?_) (fun i e j d he hd => ?_) (fun i e j d he hd => ?_)
 ·obtain ⟨i,hi⟩ := List.mem_iff_getElem?.1 he
  rw [(key i e hi).2]; rfl
 ·obtain ⟨hi,rfl⟩ := key i e he
  cases j with
  | succ j => simp at hd
  | zero =>
   rw [Nat.zero_add,Nat.mul_one,Nat.add_zero,hφ i,if_pos ⟨rfl,hi⟩]
 ·obtain ⟨hi,rfl⟩ := key i e he
  cases j with
  | succ j => simp at hd
  | zero =>
   cases hd
   exact .str _
end Go.Sx
/- The variables of a term. -/
namespace Go.Sx
def Tm.v1 : Tm -> List (List UInt8)
 | .mk k _ s _ => if k = 3 then [s] else []
mutual
def Tm.vs : Tm -> List (List UInt8)
 | .mk k n s l => Tm.v1 (.mk k n s l) ++ Tm.vsL l
def Tm.vsL : List Tm -> List (List UInt8)
 | [] => []
 | a :: r => a.vs ++ Tm.vsL r
end
theorem vsL_mem {l : List Tm} {x : Tm} (h : x ∈ l) : x.vs.length <= (Tm.vsL l).length := by
 induction l with
 | nil => cases h
 | cons a r ih =>
  simp only [Tm.vsL,List.length_append]
  rcases List.mem_cons.1 h with rfl | h
  ·omega
  ·have := ih h; omega
end Go.Sx

/- WHAT COMES IN WITH TERMS IN IT: structs and slices over terms,as plain data. -/
namespace Go.Sx
open Go.RowKit Go.Deep Go.ChangeShapes Go.WideShapes
inductive ShT where
 | bool
 | int (k : IntKind)
 | str
 | tms
 | slice (e : List ShT)
mutual
def ShT.fit (B : Nat) : ShT -> D -> Prop
 | .bool,d => ∃ b,d = .bool b
 | .int k,d => ∃ n,d = .int k n /\ (Lit.int k n).wf = true
 | .str,d => ∃ s,d = .str s /\ s.length <= B
 | .tms,d => ∃ l,d = .slice (Tm.cellsL l) [] /\ l.length <= B /\ Tm.wfL B l
 | .slice l,d => ∃ es,d = .slice es [] /\ es.length <= B /\ ∀ e,e ∈ es -> ShT.fits B l e
def ShT.fits (B : Nat) : List ShT -> List D -> Prop
 | [],ds => ds = []
 | s :: r,ds => ∃ d t,ds = d :: t /\ ShT.fit B s d /\ ShT.fits B r t
end
def fshT (P : Program) (sh : TypeId -> Option (List ShT)) : List Field -> Nat -> Option (List ShT)
 | [],_ => some []
 | f :: r,off => if f.offset = off then match sh f.type with
  | some l => if l.length = P.cellsOf f.type then match fshT P sh r (off + l.length) with
   | some m => some (l ++ m)
   | none => none
   else none
  | none => none
  else none
def shT (P : Program) (T : TypeId) : Nat -> TypeId -> Option (List ShT)
 | 0,_ => none
 | n + 1,t => match P.underlying t with
  | some .bool => some [.bool]
  | some (.int k) => some [.int k]
  | some .string => some [.str]
  | some (.slice e) => if e == T then some [.tms] else if 0 < P.bytesOf e then match shT P T n e with
   | some l => if l.length = P.cellsOf e /\ 0 < l.length then some [.slice l] else none
   | none => none
   else none
  | some (.struct fs) => match fshT P (shT P T n) fs.toList 0 with
   | some l => if l.length = P.cellsOf t then some l else none
   | none => none
  | _ => none
theorem fitsT_len {B : Nat} : ∀ {l : List ShT} {ds : List D},ShT.fits B l ds -> ds.length = l.length
 | [],ds,h => by simp only [ShT.fits] at h; simp [h]
 | s :: r,ds,h => by
  simp only [ShT.fits] at h
  obtain ⟨d,t,rfl,_,h2⟩ := h
  simp [fitsT_len h2]
theorem fitsT_append {B : Nat} : ∀ {l m : List ShT} {ds es : List D},ShT.fits B l ds -> ShT.fits B m es -> ShT.fits B (l ++ m) (ds ++ es)
 | [],m,ds,es,h,k => by simp only [ShT.fits] at h; simpa [h] using k
 | s :: r,m,ds,es,h,k => by
  simp only [ShT.fits] at h
  obtain ⟨d,t,rfl,h1,h2⟩ := h
  simp only [List.cons_append,ShT.fits]
  exact ⟨d,t ++ es,rfl,h1,fitsT_append h2 k⟩
variable {H : Type} {enc : TypeId × Value -> H} {P : Program} {w : World}
theorem read_inT {T : TypeId} (hT : isTmB P T = true) (B : Nat) : ∀ (n fuel : Nat) (t : TypeId) (cs : List Value) (x : DataW H × List MemPlace) (l : List ShT),shT P T n t = some l →
  DataW.trod enc P w 0 (fun _ => true) true fuel t cs = some x -> wOK B (x.1.weights P t) -> ∃ ds,ShT.fits B l ds /\ CRp (memW w) cs ds
 | 0,_,_,_,_,_,h,_,_ => by simp [shT] at h
 | n + 1,fuel,t,cs,x,l,h,ht,hw => by
  unfold shT at h
  split at h
  ·rename_i hu
   cases h
   obtain ⟨b,rfl,_⟩ := DataW.trod_bool hu ht
   exact ⟨[.bool b],⟨_,_,rfl,⟨b,rfl⟩,rfl⟩,rfl,fun j v d hv hd => by
    cases j with
    | zero => simp at hv hd; subst hv; subst hd; exact .bool b
    | succ j => simp at hv⟩
  ·rename_i k hu
   cases h
   obtain ⟨m,rfl,_,hwf⟩ := DataW.trod_int hu ht
   exact ⟨[.int k m],⟨_,_,rfl,⟨m,rfl,hwf⟩,rfl⟩,rfl,fun j v d hv hd => by
    cases j with
    | zero => simp at hv hd; subst hv; subst hd; exact .int k m
    | succ j => simp at hv⟩
  ·rename_i hu
   cases h
   obtain ⟨s,rfl,rfl,_⟩ := DataW.trod_string hu ht
   refine ⟨[.str s.data.toList],⟨_,_,rfl,⟨_,rfl, ?_⟩,rfl⟩,rfl,fun j v d hv hd => ?_⟩
   ·exact hw _ (by simp [DataW.weights])
   ·cases j with
    | zero =>
     simp at hv hd; subst hv; subst hd
     have := Rep.str (φ := memW w) s.data.toList
     simpa using this
    | succ j => simp at hv
  ·rename_i e hu
   split at h
   ·rename_i he
    have he : e = T := by simpa using he
    subst he
    cases h
    obtain ⟨fs,f0,f1,f2,f3,hT⟩ := isTmB_sound hT
    obtain ⟨es,hl,hq,hc⟩ := read_slice (B := B) (Q := fun ds => ∃ t : Tm,t.wf B /\ ds = t.cells) hu hT.b (by rw [hT.c]; decide) (fun ds ⟨t,_,h⟩ => by rw [h,cells_length,hT.c]) ht hw fun n cs' y _ hy hwy => by
     obtain ⟨t,h4,h5⟩ := read_tm hT _ n cs' y (Nat.le_refl _) hy hwy
     exact ⟨t.cells,⟨t,h4,rfl⟩,h5⟩
    obtain ⟨l,rfl,hwl⟩ := tms_of hq
    rw [cellsL_length] at hl
    exact ⟨_,⟨_,_,rfl,⟨l,rfl,hl,hwl⟩,rfl⟩,hc⟩
   split at h
   ·rename_i hby
    split at h
    ·rename_i le hle
     split at h
     ·rename_i hlen
      cases h
      rcases open_slice hu ht with ⟨rfl,rfl⟩ | ⟨a,len,cap,m,n',D',Pl,rfl,_,hlc,_,hm,rfl,hx⟩
      ·refine ⟨[.slice [] []],⟨_,_,rfl,⟨[],rfl,Nat.zero_le _,fun _ h => by cases h⟩,rfl⟩,rfl,fun j v d hv hd => ?_⟩
       cases j with
       | zero => simp at hv hd; subst hv; subst hd; exact .nil
       | succ j => simp at hv
      ·by_cases hl0 : len = 0
       ·subst hl0
        refine ⟨[.slice [] []],⟨_,_,rfl,⟨[],rfl,Nat.zero_le _,fun _ h => by cases h⟩,rfl⟩,rfl,fun j v d hv hd => ?_⟩
        cases j with
        | zero => simp at hv hd; subst hv; subst hd; exact .nilA _ _
        | succ j => simp at hv
       simp only [if_true] at hm
       subst hm
       have hspot : a.spot = none := by
        obtain ⟨cs',h1,_⟩ := hx 0 (by omega)
        obtain ⟨_,hl',hc'⟩ := World.cells?_some h1
        have h3 := hc' 0 (by omega)
        rw [List.getElem?_eq_getElem (by omega)] at h3
        cases hs : a.spot with
        | none => rfl
        | some q =>
         exfalso
         have e1 : (a.add (0 * P.cellsOf e)).add 0 = a := by simp [Addr.add]
         rw [e1] at h3
         unfold World.cell? at h3
         split at h3
         ·rw [hs] at h3; simp at h3
         ·cases h3
       obtain ⟨b,off,spot⟩ := a
       simp only at hspot
       subst hspot
       have hwl : len <= B /\ ∀ i,i < len -> wOK B ((D' i).weights P e) := by
        simp only [DataW.weights,hu] at hw
        refine ⟨?_,fun i hi y hy => ?_⟩
        ·have := hw _ (List.mem_cons_self ..)
         simp only [List.length_map,List.length_range] at this
         have h2 : len <= (len + (m - len)) * P.bytesOf e := Nat.le_trans (Nat.le_add_right _ _) (Nat.le_mul_of_pos_right _ hby)
         omega
        ·refine hw y (List.mem_cons_of_mem _ (List.mem_append_left _ ?_))
         have key : ∀ (l : List (DataW H)) (d : DataW H),d ∈ l -> ∀ y ∈ d.weights P e,y ∈ DataW.weightsAll P e l := by
          intro l
          induction l with
          | nil => intro d hd; cases hd
          | cons z r ih =>
           intro d hd y hy
           simp only [DataW.weightsAll]
           rcases List.mem_cons.1 hd with rfl | hd
           ·exact List.mem_append_left _ hy
           ·exact List.mem_append_right _ (ih d hd y hy)
         exact key _ _ (List.mem_map.2 ⟨i,List.mem_range.2 hi,rfl⟩) y hy
       have hone : ∀ i,i < len -> ∃ ds,ShT.fits B le ds /\ ∃ cs',w.cells? 0 (Addr.add ⟨b,off,none⟩ (i * P.cellsOf e)) (P.cellsOf e) = some cs' /\ CRp (memW w) cs' ds := fun i hi => by
        obtain ⟨cs',h1,h2⟩ := hx i (by omega)
        obtain ⟨ds,h3,h4⟩ := read_inT hT B n n' e cs' _ le hle h2 (hwl.2 i hi)
        exact ⟨ds,h3,cs',h1,h4⟩
       obtain ⟨ds,hds⟩ := choose_lt (α := List D) (p := fun i ds => ShT.fits B le ds /\ ∃ cs',w.cells? 0 (Addr.add ⟨b,off,none⟩ (i * P.cellsOf e)) (P.cellsOf e) = some cs' /\ CRp (memW w) cs' ds) hone
       have hget : ∀ (i : Nat) (q : List D),((List.range len).map ds ++ [])[i]? = some q -> i < len /\ q = ds i := by
        intro i q hq
        simp only [List.append_nil,List.getElem?_map,Option.map_eq_some_iff] at hq
        obtain ⟨i',hi',rfl⟩ := hq
        have h1 := List.getElem?_eq_some_iff.1 hi'
        obtain ⟨h2,h3⟩ := h1
        simp at h2 h3
        subst h3
        exact ⟨h2,rfl⟩
       refine ⟨[.slice ((List.range len).map ds) []],⟨_,_,rfl,⟨_,rfl,by simpa using hwl.1,fun q hq => ?_⟩,rfl⟩,rfl,fun j v d hv hd => ?_⟩
       ·obtain ⟨i,hi,rfl⟩ := List.mem_map.1 hq
        exact (hds i (List.mem_range.1 hi)).1
       ·cases j with
        | succ j => simp at hv
        | zero =>
         simp at hv hd
         subst hv; subst hd
         have hl : len = ((List.range len).map ds).length := by simp
         have hcell : ∀ i j x,i < len -> (ds i)[j]? = some x -> ∃ v,w.cell? ⟨b,off + i * P.cellsOf e + j,none⟩ = some v /\ Rep (memW w) v x := fun i j x hi hjx => by
          obtain ⟨_,cs',h1,h2⟩ := hds i hi
          obtain ⟨_,hl',hc'⟩ := World.cells?_some h1
          have hj : j < cs'.length := by
           rcases Nat.lt_or_ge j cs'.length with h | h
           ·exact h
           ·rw [List.getElem?_eq_none (by rw [<- h2.1]; exact h)] at hjx; cases hjx
          have h3 := hc' j (by omega)
          rw [List.getElem?_eq_getElem hj] at h3
          have h4 : w.cell? ⟨b,off + i * P.cellsOf e + j,none⟩ = some cs'[j] := by rw [addP,addP] at h3; exact h3
          exact ⟨_,h4,h2.2 j _ x (List.getElem?_eq_getElem hj) hjx⟩
         conv => lhs; rw [hl]
         refine .slice b off m (P.cellsOf e) _ _ (fun i j => (w.cell? ⟨b,off + i * P.cellsOf e + j,none⟩).getD Go.undef) (by simp; omega) (fun q hq => ?_) (fun i q j x hq hjx => ?_) (fun i q j x hq hjx => ?_)
         ·simp only [List.append_nil] at hq
          obtain ⟨i,hi,rfl⟩ := List.mem_map.1 hq
          rw [fitsT_len (hds i (List.mem_range.1 hi)).1,hlen.1]
         ·obtain ⟨hi,rfl⟩ := hget i q hq
          obtain ⟨v,h1,_⟩ := hcell i j x hi hjx
          show w.cell? _ = _
          rw [h1]; rfl
         ·obtain ⟨hi,rfl⟩ := hget i q hq
          obtain ⟨v,h1,h2⟩ := hcell i j x hi hjx
          rw [h1]; exact h2
     ·cases h
    ·cases h
   ·cases h
  ·rename_i fs hu
   split at h
   ·rename_i lf hlf
    split at h
    ·rename_i hlen
     cases h
     obtain ⟨xs,n',_,rfl,hcl,hxl,hx⟩ := DataW.trod_struct hu ht
     have key : ∀ (r : List Field) (i off : Nat) (m : List ShT),(∀ k f,r[k]? = some f -> fs[i + k]? = some f) -> fshT P (shT P T n) r off = some m -> wOK B (DataW.weightsEach P (r.map (·.type)) ((xs.drop i).map (·.1))) →
       ∃ ds,ShT.fits B m ds /\ ((off + m.length <= cs.length) -> CRp (memW w) ((cs.drop off).take m.length) ds) := by
      intro r
      induction r with
      | nil => intro i off m _ hm _; simp only [fshT,Option.some.injEq] at hm; subst hm; exact ⟨[],rfl,fun _ => ⟨by simp,fun j v d hv => by simp at hv⟩⟩
      | cons f r ih =>
       intro i off m hr hm hw'
       simp only [fshT] at hm
       split at hm
       ·rename_i hoff
        split at hm
        ·rename_i l1 hl1
         split at hm
         ·rename_i hl1c
          split at hm
          ·rename_i m1 hm1
           cases hm
           have hf : fs[i]? = some f := by simpa using hr 0 f rfl
           have hxi := hx i f hf
           have hil : i < xs.length := by
            have := (Array.getElem?_eq_some_iff.1 hf).1
            omega
           rw [List.getElem?_eq_getElem hil] at hxi
           have hdrop : xs.drop i = xs[i] :: xs.drop (i + 1) := List.drop_eq_getElem_cons hil
           rw [hdrop] at hw'
           simp only [List.map_cons,DataW.weightsEach] at hw'
           obtain ⟨d1,hd1,hc1⟩ := read_inT hT B n n' f.type _ _ l1 hl1 hxi (fun y hy => hw' y (List.mem_append_left _ hy))
           obtain ⟨d2,hd2,hc2⟩ := ih (i + 1) (off + l1.length) m1 (fun k g hg => by have := hr (k + 1) g (by simpa using hg); rwa [show i + 1 + k = i + (k + 1) by omega]) hm1 (fun y hy => hw' y (List.mem_append_right _ hy))
           refine ⟨d1 ++ d2,fitsT_append hd1 hd2,fun hle => ?_⟩
           rw [List.length_append] at hle
           have := hc2 (by omega)
           have hsplit : (cs.drop off).take (l1 ++ m1).length = (cs.drop off).take l1.length ++ (cs.drop (off + l1.length)).take m1.length := by
            rw [List.length_append,List.take_add,List.drop_drop]
           rw [hsplit]
           rw [hoff,<- hl1c] at hc1
           exact hc1.append this
          ·cases hm
         ·cases hm
        ·cases hm
       ·cases hm
     obtain ⟨ds,h1,h2⟩ := key fs.toList 0 0 l (fun k f hk => by simpa using hk) hlf (by simpa [DataW.weights,hu] using hw)
     refine ⟨ds,h1, ?_⟩
     have := h2 (by omega)
     simpa [hlen,<- hcl] using this
    ·cases h
   ·cases h
  ·cases h


theorem shT_one {T : TypeId} {n : Nat} {w : World} {r : Reach} {base : Nat} {t : TypeId} {v : Value} {l : List ShT} (hs : shT P T n t = some l) (h : Value.okWide P w r base t v) :
  (aggB P t = some true /\ ∃ cs,v = .agg cs) \/ (aggB P t = some false /\ v.cells = #[v]) := by
 cases n with
 | zero => simp [shT] at hs
 | succ n =>
  unfold shT at hs
  unfold aggB
  unfold Value.okWide at h
  split at hs
  all_goals first
   | (cases hs; done)
   | (
    rename_i fs hu
    rw [hu] at h ⊢
    simp only at h
    obtain ⟨cs,rfl,_⟩ := h
    exact .inl ⟨rfl,cs,rfl⟩)
   | (
    rename_i hu
    rw [hu] at h ⊢
    simp only [Cell.okWide,hu] at h
    refine .inr ⟨rfl, ?_⟩
    cases v <;> simp_all [Cell.ok,Value.cells])
section
variable [Globs] [Codes]
theorem readsT_agg {B : Nat} {T t : TypeId} {l : List ShT} {n : Nat} (hT : isTmB P T = true) (hs : shT P T n t = some l) (ha : aggB P t = some true) : Reads P B t (fun a => ∃ cs,ShT.fits B l cs /\ a = .agg cs) := by
 intro H enc w r base fuel v x hx hw hok
 obtain ⟨cs,h3,h4⟩ := read_inT hT B n fuel t _ _ l hs hx hw
 rcases shT_one hs hok with ⟨_,vs2,rfl⟩ | ⟨ha',_⟩
 ·refine ⟨.agg cs,.agg vs2 cs (by simpa [Value.cells] using h4.1) (fun j d hd => ?_),cs,h3,rfl⟩
  simp only [Value.cells] at h4
  have hjl : j < vs2.size := by
   have := (List.getElem?_eq_some_iff.1 hd).1
   rw [<- h4.1] at this
   simpa using this
  have hj : vs2.toList[j]? = some (vs2.getD j Go.undef) := by
   rw [List.getElem?_eq_getElem (by simpa using hjl)]
   simp [Array.getD,hjl]
  exact .pure (h4.2 j _ d hj hd)
 ·rw [ha] at ha'; cases ha'
end
end Go.Sx

/- Texts in order. -/
namespace Go.Sx
theorem blt : ∀ (x y : List UInt8),Op.bytesLess x y = decide (x < y)
 | [],[] => by simp [Op.bytesLess]
 | _ :: _,[] => by simp [Op.bytesLess]
 | [],_ :: _ => by simp [Op.bytesLess]
 | a :: x,b :: y => by
  rw [Op.bytesLess,blt x y]
  simp only [List.cons_lt_cons_iff]
  by_cases h1 : a < b <;> by_cases h2 : a = b <;> by_cases h3 : x < y <;> simp [h1,h2,h3]
theorem lt_ne {a b : List UInt8} (h : a <= b) (hn : a ≠ b) : a < b := by
 rcases Classical.em (a < b) with h2 | h2
 ·exact h2
 ·exact absurd (List.le_antisymm h (List.not_lt.1 h2)) hn
end Go.Sx

/- Sorted,made compact: what is in it,and in which order. -/
namespace Go.Sx
theorem srt_pw (l : List (List UInt8)) : (srt l).Pairwise (· <= ·) := by
 have h := List.pairwise_mergeSort (le := fun x y : List UInt8 => decide (x <= y)) (fun a b c h1 h2 => by simp only [decide_eq_true_eq] at *; exact List.le_trans h1 h2) (fun a b => by simp only [Bool.or_eq_true,decide_eq_true_eq]; exact List.le_total a b) l
 exact h.imp fun h => of_decide_eq_true h
theorem srt_mem {l : List (List UInt8)} {x : List UInt8} : x ∈ srt l ↔ x ∈ l := (List.mergeSort_perm l _).mem_iff
theorem cpt_up {d : Array (List UInt8)} (hd : ∀ i j,i <= j -> j < d.size -> d[i]! <= d[j]!) : ∀ m,m <= d.size -> (∀ x,x ∈ Lib.compactUpTo d m ↔ ∃ j,j < m /\ d[j]! = x) /\ (Lib.compactUpTo d m).Pairwise (· < ·)
 | 0,_ => ⟨fun x => by simp [Lib.compactUpTo],by simp [Lib.compactUpTo]⟩
 | m + 1,h => by
  obtain ⟨h1,h2⟩ := cpt_up hd m (by omega)
  rw [Lib.compactUpTo_succ]
  by_cases hk : Lib.keeps d m = true
  ·rw [if_pos hk]
   refine ⟨fun x => ?_, ?_⟩
   ·rw [List.mem_append,h1,List.mem_singleton]
    constructor
    ·rintro (⟨j,hj,e⟩ | e)
     ·exact ⟨j,by omega,e⟩
     ·exact ⟨m,by omega,e.symm⟩
    ·rintro ⟨j,hj,e⟩
     by_cases hm : j = m
     ·exact .inr (by rw [<- e,hm])
     ·exact .inl ⟨j,by omega,e⟩
   ·rw [List.pairwise_append]
    refine ⟨h2,by simp,fun x hx y hy => ?_⟩
    rw [List.mem_singleton] at hy
    subst hy
    obtain ⟨j,hj,rfl⟩ := (h1 x).1 hx
    have hne : d[m]! ≠ d[m - 1]! := by
     unfold Lib.keeps at hk
     rcases of_decide_eq_true hk with h | h
     ·omega
     ·exact h
    exact List.lt_of_le_of_lt (hd j (m - 1) (by omega) (by omega)) (lt_ne (hd (m - 1) m (by omega) (by omega)) fun e => hne e.symm)
  ·rw [if_neg hk,List.append_nil]
   refine ⟨fun x => ?_,h2⟩
   have hk' : m ≠ 0 /\ d[m]! = d[m - 1]! := by
    unfold Lib.keeps at hk
    simp only [decide_eq_true_eq,not_or,Classical.not_not] at hk
    exact hk
   rw [h1]
   constructor
   ·rintro ⟨j,hj,e⟩; exact ⟨j,by omega,e⟩
   ·rintro ⟨j,hj,e⟩
    by_cases hm : j = m
    ·exact ⟨m - 1,by omega,by rw [<- hk'.2,<- hm,e]⟩
    ·exact ⟨j,by omega,e⟩
def Tm.V (x : Tm) : List (List UInt8) := Lib.compact (srt x.vs)
theorem cpt_srt (l : List (List UInt8)) : (∀ x,x ∈ Lib.compact (srt l) ↔ x ∈ l) /\ (Lib.compact (srt l)).Pairwise (· < ·) := by
 have hp := srt_pw l
 have h := cpt_up (d := (srt l).toArray) (fun i j hij hj => by
  have hj' : j < (srt l).length := by simpa using hj
  rcases Nat.lt_or_eq_of_le hij with h | h
  ·have := List.pairwise_iff_getElem.1 hp i j (by omega) hj' h
   simpa [getElem!_pos,show i < (srt l).length by omega,hj'] using this
  ·subst h; exact List.le_refl _) (srt l).length (by simp)
 refine ⟨fun x => ?_,h.2⟩
 rw [<- srt_mem (l := l)]
 have := h.1 x
 unfold Lib.compact
 rw [this]
 constructor
 ·rintro ⟨j,hj,e⟩
  rw [getElem!_pos _ j (by simpa using hj)] at e
  rw [<- e]
  simp
 ·intro hx
  obtain ⟨j,hj,e⟩ := List.mem_iff_getElem.1 hx
  exact ⟨j,hj,by rw [getElem!_pos _ j (by simpa using hj)]; simpa using e⟩
theorem V_mem {x : Tm} {s : List UInt8} : s ∈ x.V ↔ s ∈ x.vs := (cpt_srt x.vs).1 s
theorem V_nil {x : Tm} : x.V = [] ↔ x.vs = [] := by
 constructor
 ·intro h
  rw [List.eq_nil_iff_forall_not_mem] at h ⊢
  exact fun s hs => h s (V_mem.2 hs)
 ·intro h
  rw [List.eq_nil_iff_forall_not_mem] at h ⊢
  exact fun s hs => h s (V_mem.1 hs)
end Go.Sx

/- SAFETY,PLAIN: sets of names,what literals bind,the closure. -/
namespace Go.Sx
abbrev Nm := List UInt8
def insS (s : List Nm) (n : Nm) : List Nm := if n ∈ s then s else s ++ [n]
def addS (s l : List Nm) : List Nm := l.foldl insS s
def kS (s : List Nm) : List D := s.map .str
def uS (s : List Nm) : List D := s.map fun _ => .agg []
theorem kS_len (s : List Nm) : (kS s).length = s.length := by simp [kS]
theorem mput_str (n : Nm) : ∀ s : List Nm,mput (.str n) (.agg []) (kS s) (uS s) = some (kS (insS s n),uS (insS s n))
 | [] => rfl
 | a :: r => by
  have ih := mput_str n r
  simp only [kS,uS,List.map_cons,mput,keqD]
  by_cases h : n = a
  ·subst h
   simp [insS]
  ·have hd : decide (n = a) = false := by simp [h]
   rw [hd]
   simp only [kS,uS] at ih
   rw [ih]
   by_cases h2 : n ∈ r
   ·simp [insS,h2]
   ·simp [insS,h2,h]
theorem mfind_str (n : Nm) : ∀ s : List Nm,mfind (.str n) (kS s) (uS s) = some (if n ∈ s then some (.agg []) else none)
 | [] => rfl
 | a :: r => by
  have ih := mfind_str n r
  simp only [kS,uS,List.map_cons,mfind,keqD]
  by_cases h : n = a
  ·subst h
   simp
  ·have hd : decide (n = a) = false := by simp [h]
   rw [hd]
   simp only [kS,uS] at ih
   rw [ih]
   by_cases h2 : n ∈ r
   ·simp [h2]
   ·simp [h2,h]
theorem insS_mem {s : List Nm} {n x : Nm} : x ∈ insS s n ↔ x ∈ s \/ x = n := by
 unfold insS
 split
 ·rename_i h
  exact ⟨.inl,fun h1 => h1.elim id fun e => e ▸ h⟩
 ·simp
theorem addS_mem {l : List Nm} : ∀ {s : List Nm} {x : Nm},x ∈ addS s l ↔ x ∈ s \/ x ∈ l := by
 induction l with
 | nil => intro s x; simp [addS]
 | cons a r ih =>
  intro s x
  show x ∈ addS (insS s a) r ↔ _
  rw [ih,insS_mem,List.mem_cons]
  constructor
  ·rintro ((h | h) | h)
   ·exact .inl h
   ·exact .inr (.inl h)
   ·exact .inr (.inr h)
  ·rintro (h | h | h)
   ·exact .inl (.inl h)
   ·exact .inl (.inr h)
   ·exact .inr h
theorem insS_nd {s : List Nm} (n : Nm) (h : s.Nodup) : (insS s n).Nodup := by
 unfold insS
 split
 ·exact h
 ·rename_i hn
  rw [List.nodup_append]
  exact ⟨h,by simp,fun a ha b hb e => by simp at hb; subst hb; subst e; exact hn ha⟩
theorem addS_nd {l : List Nm} : ∀ {s : List Nm},s.Nodup -> (addS s l).Nodup := by
 induction l with
 | nil => exact fun h => h
 | cons a r ih => exact fun h => ih (insS_nd a h)
theorem insS_pre (s : List Nm) (n : Nm) : ∃ t,insS s n = s ++ t := by
 unfold insS
 split
 ·exact ⟨[],by simp⟩
 ·exact ⟨[n],rfl⟩
theorem addS_pre {l : List Nm} : ∀ {s : List Nm}, ∃ t,addS s l = s ++ t := by
 induction l with
 | nil => exact fun {s} => ⟨[],by simp [addS]⟩
 | cons a r ih =>
  intro s
  obtain ⟨t,ht⟩ := insS_pre s a
  obtain ⟨u,hu⟩ := ih (s := insS s a)
  exact ⟨t ++ u,by show addS (insS s a) r = _; rw [hu,ht,List.append_assoc]⟩
theorem addS_app (s a b : List Nm) : addS s (a ++ b) = addS (addS s a) b := by simp [addS]
theorem insS_len (s : List Nm) (n : Nm) : s.length <= (insS s n).length /\ (insS s n).length <= s.length + 1 := by
 unfold insS
 split <;> simp
theorem addS_len : ∀ (l s : List Nm),s.length <= (addS s l).length /\ (addS s l).length <= s.length + l.length
 | [],s => by simp [addS]
 | a :: r,s => by
  have h := addS_len r (insS s a)
  have h1 := insS_len s a
  show s.length <= (addS (insS s a) r).length /\ (addS (insS s a) r).length <= _
  simp only [List.length_cons]
  omega
theorem srt_perm (s : List Nm) : (srt s).Perm s := List.mergeSort_perm s _
theorem srt_lt {s : List Nm} (h : s.Nodup) : (srt s).Pairwise (· < ·) := by
 have h1 := srt_pw s
 have h2 : (srt s).Nodup := (srt_perm s).nodup_iff.2 h
 have h3 := h1.and h2
 exact h3.imp fun ⟨a,b⟩ => lt_ne a b
theorem pw_eq : ∀ {a b : List Nm},a.Pairwise (· < ·) -> b.Pairwise (· < ·) -> (∀ x,x ∈ a ↔ x ∈ b) -> a = b
 | [],[],_,_,_ => rfl
 | [],y :: b,_,_,h => by have := (h y).2 (List.mem_cons_self ..); cases this
 | x :: a,[],_,_,h => by have := (h x).1 (List.mem_cons_self ..); cases this
 | x :: a,y :: b,ha,hb,h => by
  have ha' := List.pairwise_cons.1 ha
  have hb' := List.pairwise_cons.1 hb
  have e : x = y := by
   rcases List.mem_cons.1 ((h x).1 (List.mem_cons_self ..)) with e | h1
   ·exact e
   ·rcases List.mem_cons.1 ((h y).2 (List.mem_cons_self ..)) with e | h2
    ·exact e.symm
    ·exact absurd (ha'.1 y h2) (List.lt_asymm (hb'.1 x h1))
  subst e
  rw [pw_eq ha'.2 hb'.2 fun z => ?_]
  constructor
  ·intro hz
   rcases List.mem_cons.1 ((h z).1 (List.mem_cons_of_mem _ hz)) with e | h1
   ·subst e; exact absurd (ha'.1 z hz) (List.lt_irrefl z)
   ·exact h1
  ·intro hz
   rcases List.mem_cons.1 ((h z).2 (List.mem_cons_of_mem _ hz)) with e | h1
   ·subst e; exact absurd (hb'.1 z hz) (List.lt_irrefl z)
   ·exact h1
theorem srt_same {a b : List Nm} (ha : a.Nodup) (hb : b.Nodup) (h : ∀ x,x ∈ a ↔ x ∈ b) : srt a = srt b :=
 pw_eq (srt_lt ha) (srt_lt hb) fun x => by rw [srt_mem,srt_mem]; exact h x
def insD (x : Nm) : List Nm -> List Nm
 | [] => [x]
 | y :: r => if x < y then x :: y :: r else if x = y then y :: r else y :: insD x r
def sortD (l : List Nm) : List Nm := l.foldr insD []
theorem insD_mem {x z : Nm} : ∀ {l : List Nm},z ∈ insD x l ↔ z = x \/ z ∈ l
 | [] => by simp [insD]
 | y :: r => by
  unfold insD
  split
  ·simp
  ·split
   ·rename_i h
    subst h
    simp
   ·rw [List.mem_cons,insD_mem (l := r),List.mem_cons]
    constructor
    ·rintro (h | h | h)
     ·exact .inr (.inl h)
     ·exact .inl h
     ·exact .inr (.inr h)
    ·rintro (h | h | h)
     ·exact .inr (.inl h)
     ·exact .inl h
     ·exact .inr (.inr h)
theorem insD_lt {x : Nm} : ∀ {l : List Nm},l.Pairwise (· < ·) -> (insD x l).Pairwise (· < ·)
 | [],_ => by simp [insD]
 | y :: r,h => by
  have hh := List.pairwise_cons.1 h
  unfold insD
  split
  ·rename_i hx
   refine List.pairwise_cons.2 ⟨fun z hz => ?_,h⟩
   rcases List.mem_cons.1 hz with rfl | hz
   ·exact hx
   ·exact List.lt_trans hx (hh.1 z hz)
  ·rename_i hx
   split
   ·exact h
   ·rename_i hne
    refine List.pairwise_cons.2 ⟨fun z hz => ?_,insD_lt hh.2⟩
    rcases insD_mem.1 hz with rfl | hz
    ·exact lt_ne (List.not_lt.1 hx) fun e => hne e.symm
    ·exact hh.1 z hz
theorem sortD_lt : ∀ l : List Nm,(sortD l).Pairwise (· < ·)
 | [] => List.Pairwise.nil
 | x :: r => insD_lt (sortD_lt r)
theorem sortD_mem {z : Nm} : ∀ {l : List Nm},z ∈ sortD l ↔ z ∈ l
 | [] => Iff.rfl
 | x :: r => by
  show z ∈ insD x (sortD r) ↔ _
  rw [insD_mem,sortD_mem (l := r),List.mem_cons]
theorem srt_eqD {s : List Nm} (h : s.Nodup) : srt s = sortD s := pw_eq (srt_lt h) (sortD_lt s) fun x => by rw [srt_mem,sortD_mem]
def Tm.W (x : Tm) : List Nm := sortD x.vs
theorem V_eq (x : Tm) : x.V = x.W := pw_eq (cpt_srt x.vs).2 (sortD_lt _) fun y => by unfold Tm.W; rw [sortD_mem]; exact V_mem
theorem insD_len (x : Nm) : ∀ l : List Nm,(insD x l).length <= l.length + 1
 | [] => by simp [insD]
 | y :: r => by
  have := insD_len x r
  unfold insD
  split
  ·simp
  ·split
   ·simp
   ·simp only [List.length_cons]; omega
theorem sortD_len : ∀ l : List Nm,(sortD l).length <= l.length
 | [] => Nat.le_refl _
 | x :: r => by
  have h1 := sortD_len r
  have h2 := insD_len x (sortD r)
  show (insD x (sortD r)).length <= _
  simp only [List.length_cons]
  omega
theorem W_len (x : Tm) : x.W.length <= x.vs.length := sortD_len _
mutual
def Tm.ov : Tm -> List Nm
 | .mk k n s l => if k = 5 \/ k = 6 then [] else if k = 3 then s :: Tm.ovL l else Tm.ovL l
def Tm.ovL : List Tm -> List Nm
 | [] => []
 | a :: r => a.ov ++ Tm.ovL r
end
theorem ov_len : ∀ x : Tm,x.ov.length <= x.vs.length
 | .mk k n s l => by
  have IH : ∀ y ∈ l,y.ov.length <= y.vs.length := fun y hy => ov_len y
  have hL : ∀ r : List Tm,(∀ y ∈ r,y.ov.length <= y.vs.length) -> (Tm.ovL r).length <= (Tm.vsL r).length := by
   intro r
   induction r with
   | nil => intro _; simp [Tm.ovL]
   | cons a r ih =>
    intro h
    have h1 := h a (List.mem_cons_self ..)
    have h2 := ih fun y hy => h y (List.mem_cons_of_mem _ hy)
    simp only [Tm.ovL,Tm.vsL,List.length_append]
    omega
  have h := hL l IH
  simp only [Tm.ov,Tm.vs,Tm.v1,List.length_append]
  split
  ·simp
  ·split
   ·simp only [List.length_cons,List.length_nil]; omega
   ·simp only [List.length_nil]; omega
termination_by x => SizeOf.sizeOf x
decreasing_by
 have := List.sizeOf_lt_of_mem hy
 simp only [Tm.mk.sizeOf_spec]
 omega
theorem ovL_len : ∀ r : List Tm,(Tm.ovL r).length <= (Tm.vsL r).length
 | [] => by simp [Tm.ovL]
 | a :: r => by
  have h1 := ov_len a
  have h2 := ovL_len r
  simp only [Tm.ovL,Tm.vsL,List.length_append]
  omega
def Tm.kd : Tm -> Nat
 | .mk k _ _ _ => k
def Tm.nm : Tm -> Nm
 | .mk _ _ s _ => s
structure Lt where
 k : Nat
 no : Bool
 p : Nm
 a : List Tm
 op : Nat
 l : Tm
 r : Tm
def Lt.c (x : Lt) : List D := .int .u8 x.k :: .bool x.no :: .str x.p :: .slice (Tm.cellsL x.a) [] :: .int .u8 x.op :: (x.l.cells ++ x.r.cells)
def ltL (l : List Lt) : List (List D) := l.map Lt.c
def Lt.wf (B : Nat) (x : Lt) : Prop := x.k <= 255 /\ x.p.length <= B /\ x.a.length <= B /\ Tm.wfL B x.a /\ x.op <= 255 /\ x.l.wf B /\ x.r.wf B
theorem ltc_len (x : Lt) : x.c.length = 13 := by simp [Lt.c,cells_length]
theorem ltL_len (l : List Lt) : (ltL l).length = l.length := by simp [ltL]
theorem ltL_get {l : List Lt} {i : Nat} (h : i < l.length) : (ltL l)[i]? = some l[i].c := by simp [ltL,h]
def knowsS (s : List Nm) (t : Tm) : Bool := t.W.all fun x => decide (x ∈ s)
def eqS (s : List Nm) (x t : Tm) : List Nm := if x.kd = 3 /\ knowsS s t = true then insS s x.nm else s
def stepS (s : List Nm) (x : Lt) : List Nm :=
 if x.no = true then s else if x.k = 1 then addS s (Tm.ovL x.a) else if x.k = 2 /\ x.op = 1 then eqS (eqS s x.l x.r) x.r x.l else s
def roundS (s : List Nm) (ls : List Lt) : List Nm := ls.foldl stepS s
def closeN : Nat -> List Nm -> List Lt -> List Nm
 | 0,s,_ => s
 | n + 1,s,ls => if (roundS s ls).length = s.length then roundS s ls else closeN n (roundS s ls) ls
def Lt.pool (x : Lt) : List Nm := Tm.ovL x.a ++ [x.l.nm,x.r.nm]
def gapS (s : List Nm) (ls : List Lt) : Nat := ((ls.flatMap Lt.pool).filter fun x => !decide (x ∈ s)).length
def closeS (s : List Nm) (ls : List Lt) : List Nm := closeN (gapS s ls + 1) s ls
theorem knowsS_iff {s : List Nm} {t : Tm} : knowsS s t = true ↔ ∀ x ∈ t.W,x ∈ s := by simp [knowsS]
theorem eqS_pre (s : List Nm) (x t : Tm) : ∃ u,eqS s x t = s ++ u := by
 unfold eqS
 split
 ·exact insS_pre _ _
 ·exact ⟨[],by simp⟩
theorem eqS_nd {s : List Nm} (x t : Tm) (h : s.Nodup) : (eqS s x t).Nodup := by
 unfold eqS
 split
 ·exact insS_nd _ h
 ·exact h
theorem eqS_mem {s : List Nm} {x t : Tm} {y : Nm} : y ∈ eqS s x t ↔ y ∈ s \/ (x.kd = 3 /\ knowsS s t = true /\ y = x.nm) := by
 unfold eqS
 split
 ·rename_i h; rw [insS_mem]; simp [h.1,h.2]
 ·rename_i h
  constructor
  ·exact .inl
  ·rintro (h1 | ⟨h1,h2,_⟩)
   ·exact h1
   ·exact absurd ⟨h1,h2⟩ h
theorem stepS_pre (s : List Nm) (x : Lt) : ∃ t,stepS s x = s ++ t := by
 unfold stepS
 split
 ·exact ⟨[],by simp⟩
 split
 ·exact addS_pre
 split
 ·obtain ⟨t,ht⟩ := eqS_pre s x.l x.r
  obtain ⟨u,hu⟩ := eqS_pre (eqS s x.l x.r) x.r x.l
  exact ⟨t ++ u,by rw [hu,ht,List.append_assoc]⟩
 ·exact ⟨[],by simp⟩
theorem stepS_nd {s : List Nm} (x : Lt) (h : s.Nodup) : (stepS s x).Nodup := by
 unfold stepS
 split
 ·exact h
 split
 ·exact addS_nd h
 split
 ·exact eqS_nd _ _ (eqS_nd _ _ h)
 ·exact h
theorem stepS_sub {s : List Nm} {x : Lt} {y : Nm} (h : y ∈ stepS s x) : y ∈ s \/ y ∈ x.pool := by
 unfold stepS at h
 unfold Lt.pool
 split at h
 ·exact .inl h
 split at h
 ·rcases addS_mem.1 h with h | h
  ·exact .inl h
  ·exact .inr (List.mem_append_left _ h)
 split at h
 ·rcases eqS_mem.1 h with h | ⟨_,_,rfl⟩
  ·rcases eqS_mem.1 h with h | ⟨_,_,rfl⟩
   ·exact .inl h
   ·exact .inr (List.mem_append_right _ (by simp))
  ·exact .inr (List.mem_append_right _ (by simp))
 ·exact .inl h
theorem eqS_mono {s t : List Nm} {x u : Tm} (hs : ∀ y ∈ s,y ∈ t) : ∀ y ∈ eqS s x u,y ∈ eqS t x u := by
 intro y h
 rcases eqS_mem.1 h with h | ⟨h1,h2,h3⟩
 ·exact eqS_mem.2 (.inl (hs y h))
 ·exact eqS_mem.2 (.inr ⟨h1,knowsS_iff.2 fun z hz => hs z (knowsS_iff.1 h2 z hz),h3⟩)
theorem stepS_mono {s t : List Nm} {x : Lt} (hs : ∀ y ∈ s,y ∈ t) : ∀ y ∈ stepS s x,y ∈ stepS t x := by
 intro y h
 unfold stepS at h ⊢
 split at h
 ·rename_i h1; rw [if_pos h1]; exact hs y h
 rename_i h1
 rw [if_neg h1]
 split at h
 ·rename_i h2
  rw [if_pos h2]
  exact addS_mem.2 ((addS_mem.1 h).imp (hs y) id)
 rename_i h2
 rw [if_neg h2]
 split at h
 ·rename_i h3
  rw [if_pos h3]
  exact eqS_mono (eqS_mono hs) y h
 ·rename_i h3
  rw [if_neg h3]
  exact hs y h
theorem roundS_pre : ∀ (ls : List Lt) (s : List Nm), ∃ t,roundS s ls = s ++ t
 | [],s => ⟨[],by simp [roundS]⟩
 | x :: r,s => by
  obtain ⟨t,ht⟩ := stepS_pre s x
  obtain ⟨u,hu⟩ := roundS_pre r (stepS s x)
  exact ⟨t ++ u,by show roundS (stepS s x) r = _; rw [hu,ht,List.append_assoc]⟩
theorem roundS_nd : ∀ (ls : List Lt) {s : List Nm},s.Nodup -> (roundS s ls).Nodup
 | [],s,h => h
 | x :: r,s,h => roundS_nd r (stepS_nd x h)
theorem roundS_sub : ∀ (ls : List Lt) {s : List Nm} {y : Nm},y ∈ roundS s ls -> y ∈ s \/ y ∈ ls.flatMap Lt.pool
 | [],s,y,h => .inl h
 | x :: r,s,y,h => by
  have h : y ∈ roundS (stepS s x) r := h
  rw [List.flatMap_cons,List.mem_append]
  rcases roundS_sub r h with h | h
  ·rcases stepS_sub h with h | h
   ·exact .inl h
   ·exact .inr (.inl h)
  ·exact .inr (.inr h)
def Cl (ls : List Lt) (T : List Nm) : Prop := ∀ x ∈ ls, ∀ y ∈ stepS T x,y ∈ T
theorem roundS_in {ls : List Lt} {T : List Nm} (hT : Cl ls T) : ∀ (r : List Lt) {s : List Nm},(∀ x ∈ r,x ∈ ls) -> (∀ y ∈ s,y ∈ T) -> ∀ y ∈ roundS s r,y ∈ T
 | [],s,_,hs,y,h => hs y h
 | x :: r,s,hr,hs,y,h => roundS_in hT r (fun z hz => hr z (List.mem_cons_of_mem _ hz)) (fun z hz => hT x (hr x (List.mem_cons_self ..)) z (stepS_mono hs z hz)) y h
theorem pre_eq {s t : List Nm} (h : ∃ u,t = s ++ u) (hl : t.length = s.length) : t = s := by
 obtain ⟨u,rfl⟩ := h
 have : u = [] := by
  cases u with
  | nil => rfl
  | cons a b => simp at hl
 simp [this]
theorem pre_len {s t : List Nm} (h : ∃ u,t = s ++ u) : s.length <= t.length := by
 obtain ⟨u,rfl⟩ := h
 simp
theorem roundS_fix : ∀ (ls : List Lt) {s : List Nm},roundS s ls = s -> ∀ x ∈ ls,stepS s x = s
 | [],s,_,x,hx => by cases hx
 | a :: r,s,h,x,hx => by
  have h : roundS (stepS s a) r = s := h
  have h1 := pre_len (stepS_pre s a)
  have h2 := pre_len (roundS_pre r (stepS s a))
  rw [h] at h2
  have e := pre_eq (stepS_pre s a) (by omega)
  rw [e] at h
  rcases List.mem_cons.1 hx with rfl | hx
  ·exact e
  ·exact roundS_fix r h x hx
theorem gap_lt {s : List Nm} {ls : List Lt} (hs : s.Nodup) (hl : (roundS s ls).length ≠ s.length) : gapS (roundS s ls) ls < gapS s ls := by
 obtain ⟨u,hu⟩ := roundS_pre ls s
 have hnd := roundS_nd ls hs
 cases u with
 | nil => rw [hu] at hl; simp at hl
 | cons e u =>
  have he : e ∈ roundS s ls := by rw [hu]; simp
  have hes : e ∉ s := by
   rw [hu,List.nodup_append] at hnd
   exact fun h => hnd.2.2 e h e (List.mem_cons_self ..) rfl
  have hp : e ∈ ls.flatMap Lt.pool := (roundS_sub ls he).resolve_left hes
  unfold gapS
  have e1 : (ls.flatMap Lt.pool).filter (fun x => !decide (x ∈ roundS s ls)) = ((ls.flatMap Lt.pool).filter (fun x => !decide (x ∈ s))).filter (fun x => !decide (x ∈ roundS s ls)) := by
   rw [List.filter_filter]
   refine List.filter_congr fun x _ => ?_
   by_cases h1 : x ∈ roundS s ls
   ·simp [h1]
   ·have h2 : x ∉ s := fun h => h1 (by rw [hu]; exact List.mem_append_left _ h)
    simp [h1,h2]
  rw [e1]
  refine List.length_filter_lt_length_iff_exists.2 ⟨e, ?_,by simp [he]⟩
  rw [List.mem_filter]
  exact ⟨hp,by simp [hes]⟩
theorem closeN_pre : ∀ (n : Nat) (s : List Nm) (ls : List Lt), ∃ t,closeN n s ls = s ++ t
 | 0,s,ls => ⟨[],by simp [closeN]⟩
 | n + 1,s,ls => by
  unfold closeN
  split
  ·exact roundS_pre ls s
  ·obtain ⟨t,ht⟩ := roundS_pre ls s
   obtain ⟨u,hu⟩ := closeN_pre n (roundS s ls) ls
   exact ⟨t ++ u,by rw [hu,ht,List.append_assoc]⟩
theorem closeN_nd : ∀ (n : Nat) {s : List Nm} (ls : List Lt),s.Nodup -> (closeN n s ls).Nodup
 | 0,s,ls,h => h
 | n + 1,s,ls,h => by
  unfold closeN
  split
  ·exact roundS_nd ls h
  ·exact closeN_nd n ls (roundS_nd ls h)
theorem closeN_in {ls : List Lt} {T : List Nm} (hT : Cl ls T) : ∀ (n : Nat) {s : List Nm},(∀ y ∈ s,y ∈ T) -> ∀ y ∈ closeN n s ls,y ∈ T
 | 0,s,hs,y,h => hs y h
 | n + 1,s,hs,y,h => by
  have hr := roundS_in hT ls (fun _ h => h) hs
  unfold closeN at h
  split at h
  ·exact hr y h
  ·exact closeN_in hT n hr y h
theorem closeN_fix : ∀ (n : Nat) {s : List Nm} (ls : List Lt),s.Nodup -> gapS s ls < n -> roundS (closeN n s ls) ls = closeN n s ls
 | 0,s,ls,_,h => by omega
 | n + 1,s,ls,hs,h => by
  unfold closeN
  split
  ·rename_i hl
   have e := pre_eq (roundS_pre ls s) hl
   rw [e,e]
  ·rename_i hl
   have := gap_lt hs hl
   exact closeN_fix n ls (roundS_nd ls hs) (by omega)
theorem closeN_more : ∀ (n m : Nat) {s : List Nm} (ls : List Lt),s.Nodup -> gapS s ls < n -> gapS s ls < m -> closeN n s ls = closeN m s ls
 | 0,_,s,ls,_,h,_ => by omega
 | _ + 1,0,s,ls,_,_,h => by omega
 | n + 1,m + 1,s,ls,hs,h1,h2 => by
  unfold closeN
  split
  ·rfl
  ·rename_i hl
   have := gap_lt hs hl
   exact closeN_more n m ls (roundS_nd ls hs) (by omega) (by omega)
theorem closeS_step {s : List Nm} (ls : List Lt) (hs : s.Nodup) : closeS s ls = if (roundS s ls).length = s.length then roundS s ls else closeS (roundS s ls) ls := by
 unfold closeS
 rw [closeN]
 split
 ·rfl
 ·rename_i hl
  have := gap_lt hs hl
  exact closeN_more _ _ ls (roundS_nd ls hs) (by omega) (by omega)
theorem closeS_nd {s : List Nm} (ls : List Lt) (h : s.Nodup) : (closeS s ls).Nodup := closeN_nd _ ls h
theorem closeS_sub {s : List Nm} {ls : List Lt} {x : Nm} (h : x ∈ s) : x ∈ closeS s ls := by
 obtain ⟨t,ht⟩ := closeN_pre (gapS s ls + 1) s ls
 unfold closeS
 rw [ht]
 exact List.mem_append_left _ h
theorem closeS_cl {s : List Nm} (ls : List Lt) (h : s.Nodup) : Cl ls (closeS s ls) := fun x hx y hy => by
 have e := roundS_fix ls (closeN_fix (gapS s ls + 1) ls h (Nat.lt_succ_self _)) x hx
 have hy : y ∈ stepS (closeN (gapS s ls + 1) s ls) x := hy
 rw [e] at hy
 exact hy
theorem closeS_in {s : List Nm} {ls : List Lt} {T : List Nm} (hT : Cl ls T) (hs : ∀ y ∈ s,y ∈ T) : ∀ y ∈ closeS s ls,y ∈ T := closeN_in hT _ hs
def boundS (ls : List Lt) (given : List Nm) : List Nm := srt (closeS (addS [] given) ls)
theorem Cl.of {ls ls' : List Lt} {S T : List Nm} (h : Cl ls T) (hl : ∀ x ∈ ls',x ∈ ls) (he : ∀ x,x ∈ S ↔ x ∈ T) : Cl ls' S := fun x hx y hy =>
 (he y).2 (h x (hl x hx) y (stepS_mono (fun z hz => (he z).1 hz) y hy))
end Go.Sx
