/- Own work: a layer over the kit: plain data, a walk over it, its soundness. -/
import Derived.WalkKit
import Derived.OrdersIn
import Derived.WalkSmall
set_option linter.unusedSectionVars false
set_option linter.unusedVariables false
set_option linter.unusedSimpArgs false
set_option linter.deprecated false
namespace Go.Sx
open Go.RowKit

/-- What is known of frozen memory: block, offset. -/
abbrev Mem := Nat → Nat → Option Value

inductive D where
  | undef
  | bool (b : Bool)
  | int (k : IntKind) (n : Int)
  | str (s : List UInt8)
  | slice (es ext : List (List D))
  | nilp
  | nilf
  | agg (cs : List D)
  | tuple (ds : List D)
  | ptr (id off : Nat)
  | fptr (cs : List D)
  | vec (id : Nat)
  | vptr (id i j : Nat)
  | map (id : Nat)
  | func (f : Fn) (first caps : List D)
  | raw (v : Value)
  | nils
  | own (sz : Nat) (e : TypeId) (es : List (List D))
  | yld (id : Nat)
  | ifc
  deriving Inhabited

mutual
def D.men (i : Nat) : D → Bool
  | .ptr j _ => i == j
  | .vec j => i == j
  | .vptr j _ _ => i == j
  | .map j => i == j
  | .yld j => i == j
  | .agg cs => D.menL i cs
  | .tuple cs => D.menL i cs
  | .func _ f c => D.menL i f || D.menL i c
  | _ => false
def D.menL (i : Nat) : List D → Bool
  | [] => false
  | d :: r => D.men i d || D.menL i r
end

def D.cells : D → List D
  | .agg cs => cs
  | d => [d]

/-- Frozen data. -/
inductive Rep (φ : Mem) : Value → D → Prop
  | bool (b : Bool) : Rep φ (.bool b) (.bool b)
  | int (k : IntKind) (n : Int) : Rep φ (.int k n) (.int k n)
  | str (s : List UInt8) : Rep φ (.string ⟨s.toArray⟩) (.str s)
  | nil : Rep φ (.slice none 0 0) (.slice [] [])
  | slice (b off cap sz : Nat) (es ext : List (List D)) (vals : Nat → Nat → Value)
      (hcap : es.length + ext.length ≤ cap)
      (hsz : ∀ e ∈ es ++ ext, e.length = sz)
      (hmem : ∀ i e j d, (es ++ ext)[i]? = some e → e[j]? = some d → φ b (off + i * sz + j) = some (vals i j))
      (hrep : ∀ i e j d, (es ++ ext)[i]? = some e → e[j]? = some d → Rep φ (vals i j) d) :
      Rep φ (.slice (some ⟨b, off, none⟩) es.length cap) (.slice es ext)
  | nilp : Rep φ (.pointer none) .nilp
  | nilf : Rep φ .nilFunc .nilf
  | raw (v : Value) (hv : v.oneCell' = true) : Rep φ v (.raw v)
  | nils : Rep φ (.slice none 0 0) .nils
  | ifc (t : TypeId) (x : Value) : Rep φ (.iface t x) .ifc

theorem Rep.mono {φ φ' : Mem} (hφ : ∀ b o v, φ b o = some v → φ' b o = some v) {v : Value} {d : D} (h : Rep φ v d) : Rep φ' v d := by
  induction h with
  | bool b => exact .bool b
  | int k n => exact .int k n
  | str s => exact .str s
  | nil => exact .nil
  | slice b off cap sz es ext vals hcap hsz hmem _ ih => exact .slice b off cap sz es ext vals hcap hsz (fun i e j d he hd => hφ _ _ _ (hmem i e j d he hd)) ih
  | nilp => exact .nilp
  | nilf => exact .nilf
  | raw v hv => exact .raw v hv
  | nils => exact .nils
  | ifc t x => exact .ifc t x

/-- The handle of an object that is there. -/
def live : Value → Bool
  | .pointer (some _) => true
  | .slice .. => true
  | .map _ => true
  | _ => false

/-- Values of temporaries. -/
inductive RV (φ : Mem) (h : Nat → Value) : Value → D → Prop
  | undef (v : Value) : RV φ h v .undef
  | pure {v : Value} {d : D} (hr : Rep φ v d) : RV φ h v d
  | agg (vs : Array Value) (cs : List D) (hs : vs.size = cs.length) (hc : ∀ j d, cs[j]? = some d → RV φ h (vs.getD j Go.undef) d) : RV φ h (.agg vs) (.agg cs)
  | tuple (vs : Array Value) (cs : List D) (hs : vs.size = cs.length) (hc : ∀ j d, cs[j]? = some d → RV φ h (vs.getD j Go.undef) d) : RV φ h (.tuple vs) (.tuple cs)
  | ptr (id off b : Nat) (hh : h id = .pointer (some ⟨b, 0, none⟩)) : RV φ h (.pointer (some ⟨b, off, none⟩)) (.ptr id off)
  | fptr (b off : Nat) (cs : List D) (vals : Nat → Value) (hm : ∀ j d, cs[j]? = some d → φ b (off + j) = some (vals j)) (hr : ∀ j d, cs[j]? = some d → Rep φ (vals j) d) :
      RV φ h (.pointer (some ⟨b, off, none⟩)) (.fptr cs)
  | vec (id : Nat) (hl : live (h id) = true) : RV φ h (h id) (.vec id)
  | vptr (id i j b sz len cap : Nat) (hsz : sz ≠ 0) (hh : h id = .slice (some ⟨b, 0, none⟩) len cap) : RV φ h (.pointer (some ⟨b, i * sz + j, none⟩)) (.vptr id i j)
  | map (id : Nat) (hl : live (h id) = true) : RV φ h (h id) (.map id)
  | yld (id b : Nat) (hh : h id = .pointer (some ⟨b, 0, none⟩)) : RV φ h (.func (.yield b) #[] #[]) (.yld id)
  | func (f : Fn) (vf vc : Array Value) (df dc : List D) (hf : vf.size = df.length) (hc : vc.size = dc.length)
      (h1 : ∀ j d, df[j]? = some d → RV φ h (vf.getD j Go.undef) d) (h2 : ∀ j d, dc[j]? = some d → RV φ h (vc.getD j Go.undef) d) : RV φ h (.func f vf vc) (.func f df dc)

theorem menL_get {i : Nat} : ∀ {cs : List D}, D.menL i cs = false → ∀ (j : Nat) (d : D), cs[j]? = some d → D.men i d = false
  | [], _, j, d, h => by simp at h
  | c :: cs, hm, j, d, h => by
    simp only [D.menL, Bool.or_eq_false_iff] at hm
    cases j with
    | zero => simp at h; exact h ▸ hm.1
    | succ j => exact menL_get hm.2 j d (by simpa using h)

theorem RV.mono {φ φ' : Mem} (hφ : ∀ b o v, φ b o = some v → φ' b o = some v) {h : Nat → Value} {v : Value} {d : D} (r : RV φ h v d) : RV φ' h v d := by
  induction r with
  | undef v => exact .undef v
  | pure hr => exact .pure (hr.mono hφ)
  | agg vs cs hs _ ih => exact .agg vs cs hs ih
  | tuple vs cs hs _ ih => exact .tuple vs cs hs ih
  | ptr id off b hh => exact .ptr id off b hh
  | fptr b off cs vals hm hr => exact .fptr b off cs vals (fun j d hd => hφ _ _ _ (hm j d hd)) (fun j d hd => (hr j d hd).mono hφ)
  | vec id hl => exact .vec id hl
  | vptr id i j b sz len cap hsz hh => exact .vptr id i j b sz len cap hsz hh
  | map id hl => exact .map id hl
  | yld id b hh => exact .yld id b hh
  | func f vf vc df dc hf hc _ _ ih1 ih2 => exact .func f vf vc df dc hf hc ih1 ih2

def updH (h : Nat → Value) (i : Nat) (v : Value) : Nat → Value := fun j => if j = i then v else h j
theorem upd_same (h : Nat → Value) (i : Nat) (v : Value) : updH h i v i = v := by simp [updH]
theorem upd_other (h : Nat → Value) {i j : Nat} (v : Value) (hj : j ≠ i) : updH h i v j = h j := by simp [updH, hj]

theorem RV.upd {φ : Mem} {h : Nat → Value} {v : Value} {d : D} (i : Nat) (x : Value) (r : RV φ h v d) : D.men i d = false → RV φ (updH h i x) v d := by
  induction r with
  | undef v => exact fun _ => .undef v
  | pure hr => exact fun _ => .pure hr
  | agg vs cs hs _ ih => exact fun hm => .agg vs cs hs fun j d hd => ih j d hd (menL_get (by simpa [D.men] using hm) j d hd)
  | tuple vs cs hs _ ih => exact fun hm => .tuple vs cs hs fun j d hd => ih j d hd (menL_get (by simpa [D.men] using hm) j d hd)
  | ptr id off b hh => exact fun hm => .ptr id off b (by rw [upd_other]; exact hh; simp [D.men] at hm; omega)
  | fptr b off cs vals hm hr => exact fun _ => .fptr b off cs vals hm hr
  | vec id hl =>
      intro hm
      have : updH h i x id = h id := upd_other _ _ (by simp [D.men] at hm; omega)
      rw [← this] at hl ⊢; exact .vec id hl
  | vptr id a j b sz len cap hsz hh => exact fun hm => .vptr id a j b sz len cap hsz (by rw [upd_other]; exact hh; simp [D.men] at hm; omega)
  | map id hl =>
      intro hm
      have : updH h i x id = h id := upd_other _ _ (by simp [D.men] at hm; omega)
      rw [← this] at hl ⊢; exact .map id hl
  | yld id b hh => exact fun hm => .yld id b (by rw [upd_other]; exact hh; simp [D.men] at hm; omega)
  | func f vf vc df dc hf hc _ _ ih1 ih2 =>
      intro hm
      simp only [D.men, Bool.or_eq_false_iff] at hm
      exact .func f vf vc df dc hf hc (fun j d hd => ih1 j d hd (menL_get hm.1 j d hd)) (fun j d hd => ih2 j d hd (menL_get hm.2 j d hd))

inductive AOp where
  | mv
  | pick
  | bin (op : BinOp)
  | binb (op : BinOp)
  | un (op : UnOp)
  | conv (k : IntKind)
  | len (str : Bool)
  | box
  | alloc (zero : List D)
  | build (zero : List D) (parts : List (Nat × Nat))
  | bslice (fz : Bool) (sz n : Nat) (e : TypeId) (zero : List D) (parts : List (Nat × Nat))
  | load (agg : Bool) (sz : Nat)
  | faddr (off : Nat)
  | field (off : Nat) (agg : Bool) (sz : Nat)
  | iaddr (sz : Nat)
  | index
  | sliceS (lo hi : Bool)
  | slice (sz : Nat) (lo hi : Bool)
  | extract (i : Nat)
  | call (f : FuncId)
  | nilck
  | mkfn (f : Fn) (n : Nat)
  | eqn (op : BinOp) (kd : Nat)
  | iaddrA (len sz : Nat)
  | mm (big : Bool)
  | sh (left : Bool)
  deriving Inhabited

inductive X where
  | t (n : Nat)
  | c (d : D)
  deriving Inhabited

inductive SOp where
  | a (dst : Option Nat) (g : Option (Nat × Bool)) (o : AOp) (xs : List X)
  | st (g : Option (Nat × Bool)) (sz : Nat) (x y : X)
  | app (dst : Nat) (g : Option (Nat × Bool)) (fz : Bool) (sz : Nat) (e : TypeId) (x y : X)
  | cd (dst : Option Nat) (g : Option (Nat × Bool)) (x : X) (xs : List X)
  deriving Inhabited

inductive SC where
  | skip
  | ret
  | exit (id : Nat)
  | reg (ops : List SOp)
  | drw (pre : List Nat) (ops : List SOp)
  | seq (a b : SC)
  | cond (x : X) (a b : SC)
  | block (id : Nat) (c : SC)
  | loop (ts : List Nat) (c : SC)
  | rangeF (N : Nat) (g : X) (ps : Array Tmp) (a b : SC)
  deriving Inhabited

/-- Which short text is which code's. -/
class Codes where
  CI : Nat → SC → Code → Prop

/-- Objects of other kinds: the record of a loop; a map's entries, the keys in their order. -/
inductive Gen where
  | loop (st : LoopState) (pend : Option Code) (ps : Array Tmp) (asg body : SC) (N : Nat) (keys : List Nat)
  | map (K E : TypeId) (ks : List Value)
  deriving Inhabited

inductive Ob where
  | cells (cs : List D)
  | arr (fz : Bool) (sz : Nat) (e : TypeId) (es : List (List D))
  | gen (g : Gen) (ds : List D)
  deriving Inhabited

def Ob.parts : Ob → List D
  | .cells cs => cs
  | .arr .. => []
  | .gen _ ds => ds

def Ob.men (i : Nat) (o : Ob) : Bool := D.menL i o.parts

variable [Codes]

/-- What lies in the heap. -/
def Gen.is (hv : Value) (vs : List Value) (o : Obj) : Gen → Prop
  | .loop st pend ps asg body N keys => (∃ b, hv = .pointer (some ⟨b, 0, none⟩)) ∧ ∃ r : Loop, o = .loop r ∧ r.state = st ∧ r.pending = pend ∧ r.params = ps ∧ Codes.CI N asg r.assign ∧ Codes.CI N body r.body ∧ r.tmps.size = N ∧ vs = keys.map fun t => r.tmps.getD t Go.undef
  | .map _ _ ks => (∃ b, hv = .map (some b)) ∧ ∃ es clock, o = .map es clock ∧ es.toList.map MapEntry.key = ks ∧ es.toList.map MapEntry.val = vs ∧ (es.toList.map MapEntry.born).Nodup ∧ ∀ x ∈ es, x.born < clock

abbrev Env := List (Nat × D)
abbrev Obs := List (Nat × Ob)

def lk {α : Type} : List (Nat × α) → Nat → Option α
  | [], _ => none
  | (j, a) :: r, i => if i = j then some a else lk r i

structure St where
  tm : Env
  ob : Obs

structure Cx where
  N : Nat
  w0 : World
  φ0 : Mem
  Z : Nat → Prop
  bs : Nat
  h0 : Nat → Value
  kp : Nat → Option Obj

/-- The block in which an object lies. -/
def blk : Value → Option Nat
  | .pointer (some a) => some a.block
  | .slice (some a) _ _ => some a.block
  | .map r => r
  | _ => none

def ObR (own : Nat → Prop) (φ : Mem) (h : Nat → Value) (w : World) (hv : Value) : Ob → Prop
  | .cells cs => ∃ b vals e, hv = .pointer (some ⟨b, 0, none⟩) ∧ own b ∧ w.heap[b]? = some (.cells vals e (0, 0)) ∧ vals.size = cs.length ∧
      (∀ j d, cs[j]? = some d → RV φ h (vals.getD j Go.undef) d) ∧ ∀ o, φ b o = none
  | .arr fz sz e es => 0 < sz ∧ (∀ x ∈ es, x.length = sz) ∧ ∃ xs, w.ownsRow 0 e sz hv es.length xs ∧
      (∀ i x j d, es[i]? = some x → x[j]? = some d → Rep φ (xs.getD (i * sz + j) Go.undef) d) ∧
      ∀ b, blk hv = some b → own b ∧ ∀ o, φ b o = if fz = true ∧ o < es.length * sz then xs[o]? else none
  | .gen g ds => ∃ b vals o, blk hv = some b ∧ own b ∧ w.heap[b]? = some o ∧ g.is hv vals o ∧ vals.length = ds.length ∧ (∀ j d, ds[j]? = some d → RV φ h (vals.getD j Go.undef) d) ∧ ∀ off, φ b off = none

def Cx.own (cx : Cx) (b : Nat) : Prop := cx.w0.heap.size ≤ b ∨ cx.Z b

structure Mod (cx : Cx) (s : St) (φ : Mem) (h : Nat → Value) (tmps : Array Value) (w : World) : Prop where
  size : tmps.size = cx.N
  tm : ∀ t d, lk s.tm t = some d → RV φ h (tmps.getD t Go.undef) d
  mem : ∀ b o v, φ b o = some v → w.cell? ⟨b, o, none⟩ = some v
  ext : ∀ b o v, cx.φ0 b o = some v → φ b o = some v
  new : ∀ b o v, φ b o = some v → cx.φ0 b o = none → cx.own b
  ob : ∀ i o, lk s.ob i = some o → ObR cx.own φ h w (h i) o
  sep : ∀ i j b, (lk s.ob i).isSome → (lk s.ob j).isSome → blk (h i) = some b → blk (h j) = some b → i = j
  os : w.os = cx.w0.os
  tape : w.tape = cx.w0.tape
  output : w.output = cx.w0.output
  grow : cx.w0.heap.size ≤ w.heap.size
  one : ∀ i, (h i).oneCell' = true
  frame : ∀ b, b < cx.w0.heap.size → ¬ cx.Z b → w.heap[b]? = cx.w0.heap[b]?
  hfix : ∀ i, i < cx.bs → h i = cx.h0 i
  kept : ∀ b o, cx.kp b = some o → w.heap[b]? = some o ∧ (∀ off, φ b off = none) ∧ ∀ i, (lk s.ob i).isSome → blk (h i) ≠ some b

end Go.Sx
