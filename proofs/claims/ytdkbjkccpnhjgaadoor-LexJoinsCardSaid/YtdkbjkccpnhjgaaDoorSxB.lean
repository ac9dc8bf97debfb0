/- Own work: a layer over the kit: plain data, a walk over it, its soundness. -/
import Derived.Test.YtdkbjkccpnhjgaaDoorSxA
set_option linter.unusedSectionVars false
set_option linter.unusedVariables false
set_option linter.unusedSimpArgs false
set_option linter.deprecated false
namespace Go.Sx
open Go.RowKit

mutual
def D.clo : D → Bool
  | .ptr .. | .vec .. | .vptr .. | .map .. | .own .. | .yld .. => false
  | .agg cs => D.cloL cs
  | .tuple cs => D.cloL cs
  | .func _ f c => D.cloL f && D.cloL c
  | _ => true
def D.cloL : List D → Bool
  | [] => true
  | d :: r => D.clo d && D.cloL r
end

def dv (obs : Nat → Option Ob) : D → D
  | .vec id => match obs id with
    | some (.arr true _ _ es) => .slice es []
    | _ => .undef
  | .nils => .slice [] []
  | d => d

/-- One cell of plain data. -/
def D.pur : D → Bool
  | .bool _ | .int .. | .str _ | .slice .. | .nilp | .nilf | .raw _ | .nils | .ifc => true
  | _ => false

def purs (es : List (List D)) : Bool := es.all fun x => x.all D.pur

def noH : Nat → Value := fun _ => .pointer none

/-- What the program's variables hold, as far as it is used. -/
class Globs where
  G : Nat → Option (List D)
variable [Globs] [Codes]
def GlobOK (φ : Mem) : Prop := ∀ g cs, Globs.G g = some cs → RV φ noH (.pointer (some ⟨g, 0, none⟩)) (.fptr cs)

/-- A value whose abstract value is no aggregate is one cell. -/
def D.one : D → Bool
  | .agg _ | .tuple _ | .undef | .own .. => false
  | _ => true

def D.okc : D → Bool
  | .agg _ => true
  | d => D.one d

/-- What a call hands back. -/
def Ret (φ : Mem) (B : Nat) (w : World) (v : Value) : D → Prop
  | .own sz e es => ObR (B ≤ ·) φ noH w v (.arr true sz e es)
  | r => ∀ h, RV φ h v r

/-- The cells of a value. -/
def HOne (h : Nat → Value) : Prop := ∀ i, (h i).oneCell' = true

/-- THE CONTRACT OF A FUNCTION THAT WRITES NOTHING THAT WAS THERE. -/
def FnOK (P : Program) (f : FuncId) (args : List D) (r : D) : Prop :=
  ∀ (φ : Mem) (h : Nat → Value) (w : World) (vs : Array Value), HOne h → GlobOK φ → (∀ b o v, φ b o = some v → w.cell? ⟨b, o, none⟩ = some v) → vs.size = args.length →
    (∀ j d, args[j]? = some d → RV φ h (vs.getD j Go.undef) d) →
    Calls P f vs w fun e w' => ∃ v φ', e = .returned v ∧ Ret φ' w.heap.size w' v r ∧ Below w.heap.size w w' ∧
      (∀ b o u, φ b o = some u → φ' b o = some u) ∧ (∀ b o u, φ' b o = some u → w'.cell? ⟨b, o, none⟩ = some u) ∧ (∀ b o u, φ' b o = some u → φ b o = none → w.heap.size ≤ b)

def bitI (op : BinOp) (k : IntKind) (a b : Int) : Int :=
  k.wrap (match op with
    | .and => BitVec.ofInt k.bits a &&& BitVec.ofInt k.bits b
    | .or => BitVec.ofInt k.bits a ||| BitVec.ofInt k.bits b
    | .xor => BitVec.ofInt k.bits a ^^^ BitVec.ofInt k.bits b
    | _ => BitVec.ofInt k.bits a &&& ~~~(BitVec.ofInt k.bits b)).toNat

def shI (left : Bool) (k : IntKind) (a b : Int) : Int := if left then k.wrap (a * 2 ^ (min b.toNat k.bits)) else a.fdiv (2 ^ (min b.toNat k.bits))

def binI (op : BinOp) (k : IntKind) (a b : Int) (K : D → Prop) : Prop :=
  match op with
  | .add => K (.int k (k.wrap (a + b)))
  | .sub => K (.int k (k.wrap (a - b)))
  | .mul => K (.int k (k.wrap (a * b)))
  | .quo => b ≠ 0 ∧ K (.int k (k.wrap (a.tdiv b)))
  | .rem => b ≠ 0 ∧ K (.int k (a.tmod b))
  | .eql => K (.bool (decide (a = b)))
  | .neq => K (.bool (!decide (a = b)))
  | .lss => K (.bool (decide (a < b)))
  | .leq => K (.bool (decide (a ≤ b)))
  | .gtr => K (.bool (decide (b < a)))
  | .geq => K (.bool (decide (b ≤ a)))
  | .and => K (.int k (bitI .and k a b))
  | .or => K (.int k (bitI .or k a b))
  | .xor => K (.int k (bitI .xor k a b))
  | .andNot => K (.int k (bitI .andNot k a b))
  | _ => False

def binS (op : BinOp) (a b : List UInt8) (K : D → Prop) : Prop :=
  match op with
  | .add => a.length + b.length ≤ 4611686018427387904 ∧ K (.str (a ++ b))
  | .eql => K (.bool (decide (a = b)))
  | .neq => K (.bool (!decide (a = b)))
  | .lss => K (.bool (Op.bytesLess a b))
  | .leq => K (.bool (Op.bytesLess a b || decide (a = b)))
  | .gtr => K (.bool (!(Op.bytesLess a b || decide (a = b))))
  | .geq => K (.bool (!Op.bytesLess a b))
  | _ => False

/-- No value: what stands where an operation was passed by. -/
abbrev D.nov : D := .tuple []

/-- A value that is surely not nil. -/
def D.nn : D → Bool
  | .ptr .. | .fptr _ | .vptr .. | .yld _ => true
  | .func (.func _) _ _ => true
  | _ => false

/-- A comparison with nil. -/
def eqD : Nat → D → D → Option Bool
  | 0, .ifc, .raw .nilIface => some false
  | 0, .raw .nilIface, .ifc => some false
  | 0, .raw .nilIface, .raw .nilIface => some true
  | 1, .func .., .nilf => some false
  | 1, .yld _, .nilf => some false
  | 1, .nilf, .nilf => some true
  | 2, .ptr .., .nilp => some false
  | 2, .fptr _, .nilp => some false
  | 2, .nilp, .nilp => some true
  | _, _, _ => none

/-- The greatest, the least. -/
def mmI (big : Bool) (k : IntKind) : Int → List D → Option Int
  | a, [] => some a
  | a, .int k' b :: r => if k' = k then mmI big k (if big then (if b > a then b else a) else (if b < a then b else a)) r else none
  | _, _ => none

def setAt (cs : List D) (off : Nat) : List D → List D
  | [] => cs
  | d :: r => setAt (cs.set off d) (off + 1) r

def buildD (obs : Nat → Option Ob) (cs : List D) : List (Nat × Nat) → List D → Option (List D)
  | [], [] => some cs
  | (off, sz) :: ps, d :: ds =>
    if D.okc (dv obs d) = true ∧ (dv obs d).cells.length = sz ∧ off + sz ≤ cs.length then buildD obs (setAt cs off (dv obs d).cells) ps ds else none
  | _, _ => none

def chunk (sz : Nat) : Nat → List D → List (List D)
  | 0, _ => []
  | n + 1, cs => cs.take sz :: chunk sz n (cs.drop sz)

def sliceOf (obs : Nat → Option Ob) : D → Option (List (List D) × List (List D))
  | .slice es ext => some (es, ext)
  | .nils => some ([], [])
  | .vec id => match obs id with
    | some (.arr true _ _ es) => some (es, [])
    | _ => none
  | _ => none

/-- The lower and upper bounds of a slice expression. -/
def bounds (lo hi : Bool) (len : Nat) : List D → Option (Int × Int)
  | [.int _ a, .int _ b] => if lo && hi then some (a, b) else none
  | [.int _ a] => if lo && !hi then some (a, (len : Int)) else if !lo && hi then some (0, a) else none
  | [] => if lo || hi then none else some (0, (len : Int))
  | _ => none

/-- ONE OPERATION, ITS OPERANDS KNOWN: what it yields, and the object that it makes. -/
def evl (P : Program) (dst : Nat) (o : AOp) (xs : List D) (obs : Nat → Option Ob) (K : D → Option Ob → Prop) : Prop :=
  match o, xs with
  | .mv, [d] => K d none
  | .pick, [.bool c, a, b] => K (if c then a else b) none
  | .bin op, [.int k a, .int k' b] => k = k' ∧ binI op k a b fun d => K d none
  | .bin op, [.str a, .str b] => binS op a b fun d => K d none
  | .binb .eql, [.bool a, .bool b] => K (.bool (a == b)) none
  | .binb .neq, [.bool a, .bool b] => K (.bool (!(a == b))) none
  | .un .not, [.bool a] => K (.bool (!a)) none
  | .un .neg, [.int k a] => K (.int k (k.wrap (0 - a))) none
  | .conv k, [.int _ n] => K (.int k (k.wrap n)) none
  | .len true, [.str s] => K (.int .i64 s.length) none
  | .len false, [.slice es _] => K (.int .i64 es.length) none
  | .len false, [.nils] => K (.int .i64 0) none
  | .len false, [.vec id] => match obs id with
    | some (.arr _ _ _ es) => K (.int .i64 es.length) none
    | _ => False
  | .box, [d] => D.okc d = true ∧ K (.ptr dst 0) (some (.cells d.cells))
  | .alloc z, [] => K (.ptr dst 0) (some (.cells z))
  | .build z ps, ds => match buildD obs z ps ds with
    | some cs => K (.agg cs) none
    | none => False
  | .bslice fz sz n e z ps, ds => match buildD obs z ps ds with
    | some cs => cs.all D.pur = true ∧ K (.vec dst) (some (.arr fz sz e (chunk sz n cs)))
    | none => False
  | .load agg sz, [.ptr id off] => match obs id with
    | some (.cells cs) => if agg then off + sz ≤ cs.length ∧ K (.agg (((cs.drop off).take sz).map (dv obs))) none else match cs[off]? with
      | some d => K d none
      | none => False
    | _ => False
  | .load agg sz, [.fptr cs] => if agg then sz ≤ cs.length ∧ K (.agg (cs.take sz)) none else match cs with
      | d :: _ => K d none
      | [] => False
  | .faddr off, [.ptr id o] => K (.ptr id (o + off)) none
  | .faddr off, [.fptr cs] => K (.fptr (cs.drop off)) none
  | .faddr off, [.vptr id i j] => K (.vptr id i (j + off)) none
  | .field off agg sz, [.agg cs] => if agg then off + sz ≤ cs.length ∧ K (.agg ((cs.drop off).take sz)) none else match cs[off]? with
      | some d => K d none
      | none => False
  | .iaddr sz, [.slice es _, .int _ n] => 0 ≤ n ∧ n < es.length ∧ (es.getD n.toNat []).length = sz ∧ K (.fptr (es.getD n.toNat [])) none
  | .iaddr sz, [.vec id, .int _ n] => match obs id with
    | some (.arr true _ _ es) => 0 ≤ n ∧ n < es.length ∧ (es.getD n.toNat []).length = sz ∧ K (.fptr (es.getD n.toNat [])) none
    | some (.arr false sz' _ es) => sz' = sz ∧ 0 ≤ n ∧ n < es.length ∧ K (.vptr id n.toNat 0) none
    | _ => False
  | .index, [.str s, .int _ n] => 0 ≤ n ∧ n < s.length ∧ K (.int .u8 (s.getD n.toNat 0).toNat) none
  | .sliceS lo hi, .str s :: bs => match bounds lo hi s.length bs with
    | some (a, b) => 0 ≤ a ∧ a ≤ b ∧ b ≤ s.length ∧ K (.str ((s.take b.toNat).drop a.toNat)) none
    | none => False
  | .slice sz lo hi, d :: bs => match sliceOf obs d with
    | some (es, ext) => match bounds lo hi es.length bs with
      | some (a, b) => (∀ q ∈ es ++ ext, q.length = sz) ∧ 0 ≤ a ∧ a ≤ b ∧ b ≤ (es ++ ext).length ∧ K (.slice (((es ++ ext).take b.toNat).drop a.toNat) ((es ++ ext).drop b.toNat)) none
      | none => False
    | none => False
  | .extract i, [.tuple ds] => match ds[i]? with
    | some d => K d none
    | none => False
  | .call f, ds => ∃ r, FnOK P f (ds.map (dv obs)) r ∧ (match r with
    | .own sz e es => K (.vec dst) (some (.arr true sz e es))
    | r => K r none)
  | .nilck, [d] => D.nn d = true ∧ K d none
  | .mkfn f n, ds => n ≤ ds.length ∧ K (.func f (ds.take n) (ds.drop n)) none
  | .eqn op kd, [a, b] => match eqD kd a b with
    | some r => if op = .eql then K (.bool r) none else if op = .neq then K (.bool (!r)) none else False
    | none => False
  | .iaddrA len sz, [.fptr cs, .int _ n] => 0 ≤ n ∧ n < len ∧ K (.fptr (cs.drop (n.toNat * sz))) none
  | .iaddrA len sz, [.ptr id off, .int _ n] => 0 ≤ n ∧ n < len ∧ K (.ptr id (off + n.toNat * sz)) none
  | .mm big, .int k a :: ds => match mmI big k a ds with
    | some r => K (.int k r) none
    | none => False
  | .sh left, [.int k a, .int _ b] => 0 ≤ b ∧ K (.int k (shI left k a b)) none
  | _, _ => False

end Go.Sx
