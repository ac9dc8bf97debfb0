/- Own work: a layer over the kit: plain data, a walk over it, its soundness. -/
import Derived.Test.YtdkbjkccpnhjgaaDoorSxNa
set_option linter.unusedSectionVars false
set_option linter.unusedVariables false
set_option linter.unusedSimpArgs false
set_option linter.deprecated false
namespace Go.Sx
open Go.RowKit
variable [Globs] [Codes]

def St.get (s : St) : X → D
  | .t n => (lk s.tm n).getD .undef
  | .c d => d

def St.put (s : St) (dst : Option Nat) (d : D) : St :=
  match dst with
  | some t => { s with tm := (t, d) :: eraseId t s.tm }
  | none => s

def St.put2 (s : St) (dst id : Nat) (d : D) (o : Ob) : St := { tm := (dst, d) :: eraseId dst s.tm, ob := (id, o) :: eraseId id s.ob }

def gud (g : Option (Nat × Bool)) (s : St) (body skip : Prop) : Prop :=
  match g with
  | none => body
  | some (t, want) => match lk s.tm t with
    | some (.bool b) => if b = want then body else skip
    | some (.tuple []) => skip
    | _ => False

/-- An argument: what is only grown by us is handed over as what it holds. -/
def dva (obs : Nat → Option Ob) : D → D
  | .vec id => match obs id with
    | some (.arr true _ _ es) => .slice es []
    | _ => .vec id
  | .nils => .slice [] []
  | d => d

/-- A number from which on all is free; below it there is room for the places of a region. -/
def St.base (s : St) (bs : Nat) : Nat := max (bs + 4096) s.top

def stp (P : Program) (bs : Nat) (o : SOp) (s : St) (K : St → Prop) : Prop :=
  match o with
  | .a dst g op xs => gud g s
      (evl P (bs + dst.getD 0) op (xs.map s.get) (lk s.ob) fun d nb => match nb with
        | none => K (s.put dst d)
        | some ob => match dst with
          | some t => s.clean (bs + t) = true ∧ K (s.put2 t (bs + t) d ob)
          | none => False)
      (K (s.put dst .nov))
  | .st g sz x y => gud g s
      (match s.get x with
        | .ptr id off => match lk s.ob id with
          | some (.cells cs) => D.flat (s.get y) = true ∧ (s.get y).cells.length = sz ∧ off + sz ≤ cs.length ∧ K { s with ob := (id, .cells (setAt cs off (s.get y).cells)) :: eraseId id s.ob }
          | _ => False
        | _ => False)
      (K s)
  | .app dst g fz sz e x y => gud g s
      (match sliceOf (lk s.ob) (s.get y) with
        | some (ys, _) => (∀ q ∈ ys, q.length = sz) ∧ (match s.get x with
          | .nils => ys.length ≤ 1073741824 ∧ s.clean (bs + dst) = true ∧ K (s.put2 dst (bs + dst) (.vec (bs + dst)) (.arr fz sz e ys))
          | .vec id => match lk s.ob id with
            | some (.arr fz' sz' e' es) => sz' = sz ∧ e' = e ∧ es.length + ys.length ≤ 1073741824 ∧ s.clean (bs + dst) = true ∧
                K (St.put2 ⟨s.tm, eraseId id s.ob⟩ dst (bs + dst) (.vec (bs + dst)) (.arr fz' sz e (es ++ ys)))
            | _ => False
          | _ => False)
        | none => False)
      (K (s.put (some dst) .nov))
  | .cd dst g x xs => gud g s
      (∃ nm R base, nm.Nodup ∧ (∀ i ∈ nm, (lk s.ob i).isSome) ∧ bs + 4096 ≤ base ∧ s.top ≤ base ∧
        CallL P ((s.get x).ren (idx · nm)) ((xs.map fun x => dva (lk s.ob) (s.get x)).map (D.ren (idx · nm))) (handO s.ob (idx · nm) 0 nm) R ∧
        ∀ r ob', R r ob' → K ((s.back base nm ob').put dst (r.ren (bkN base nm))))
      (K (s.put dst .nov))

def stps (P : Program) (bs : Nat) : List SOp → St → (St → Prop) → Prop
  | [], s, K => K s
  | o :: r, s, K => stp P bs o s fun s' => stps P bs r s' K

/- FROM THE PROGRAM's OPERATIONS. -/

def compX : Operand → Option X
  | .tmp t => some (.t t)
  | .const v => some (.c (constD v))
  | .func f => some (.c (.func (.func f) [] []))
  | .global g => (Globs.G g).map fun cs => .c (.fptr cs)

def pureF (P : Program) (f : FuncId) : Bool :=
  match P.funcs[f]? with
  | some fn => !fn.body.isNone && !(fn.name == "runtime.NumGoroutine")
  | none => false

def compCall (P : Program) (c : Call) : Option (AOp × List Operand) :=
  match c.callee with
  | .builtin .len => match c.args.toList, c.argTypes.toList with
    | [x], [t] => match P.underlying t with
      | some .string => some (.len true, [x])
      | some (.slice _) => some (.len false, [x])
      | _ => none
    | _, _ => none
  | .value (.func f) => if pureF P f then some (.call f, c.args.toList) else none
  | .builtin .max => some (.mm true, c.args.toList)
  | .builtin .min => some (.mm false, c.args.toList)
  | _ => none

/-- Calls that may reach our objects. -/
def compCd (bt : Nat → Bool) (c : Call) : Option (Operand × List Operand) :=
  match c.callee with
  | .value (.func f) => if bt f then some (.func f, c.args.toList) else none
  | .value g => some (g, c.args.toList)
  | _ => none

/-- The operation without its place. -/
def compA (P : Program) (fz : Bool) (o : Oper) : Option (AOp × List Operand) :=
  match o.op with
  | .move x => some (.mv, [x])
  | .assign x => some (.mv, [x])
  | .pick c a b => some (.pick, [c, a, b])
  | .binOp .shl _ x y _ => some (.sh true, [x, y])
  | .binOp .shr _ x y _ => some (.sh false, [x, y])
  | .binOp op t x y _ => match P.underlying t with
    | some .bool => some (.binb op, [x, y])
    | some (.int _) => some (.bin op, [x, y])
    | some .string => some (.bin op, [x, y])
    | _ => match kdOf P t with
      | some kd => if cst x || cst y then some (.eqn op kd, [x, y]) else none
      | none => none
  | .unOp op _ x => some (.un op, [x])
  | .convert s d x => match P.underlying s, P.underlying d with
    | some _, some (.int k) => some (.conv k, [x])
    | _, _ => none
  | .box _ x => some (.box, [x])
  | .alloc e => (zeroOf P e).map fun z => (.alloc z, [])
  | .build t parts => match zeroOf P t, placesOf P t (parts.toList.map (·.1)) with
    | some z, some ps => some (.build (z.map unnil) ps, parts.toList.map (·.2))
    | _, _ => none
  | .buildSlice t n parts => match P.underlying t with
    | some (.slice e) => match zeroOf P e, szT P e with
      | some z, some sz => if 0 < sz ∧ n * sz ≤ 16777216 then some (.bslice fz sz n e ((List.replicate n (z.map unnil)).flatten) (parts.toList.map fun x => (x.1 * sz, sz)), parts.toList.map (·.2)) else none
      | _, _ => none
    | _ => none
  | .load t x => match aggB P t, szT P t with
    | some ag, some sz => some (.load ag sz, [x])
    | _, _ => none
  | .fieldAddr s x f => (fldOff P s f).map fun r => (.faddr r.1, [x])
  | .field s x f => (fldOff P s f).map fun r => (.field r.1 r.2.1 r.2.2, [x])
  | .indexAddr t x y => match P.underlying t with
    | some (.slice e) => (szT P e).map fun sz => (.iaddr sz, [x, y])
    | some (.array len e) => (szT P e).map fun sz => (.iaddrA len sz, [x, y])
    | _ => none
  | .index t x y => match P.underlying t with
    | some .string => some (.index, [x, y])
    | _ => none
  | .slice t x lo hi none => match P.underlying t with
    | some .string => some (.sliceS lo.isSome hi.isSome, [x] ++ lo.toList ++ hi.toList)
    | some (.slice e) => (szT P e).map fun sz => (.slice sz lo.isSome hi.isSome, [x] ++ lo.toList ++ hi.toList)
    | _ => none
  | .extract x i => some (.extract i, [x])
  | .call c => compCall P c
  | .nilCheck x => some (.nilck, [x])
  | .makeFunc f first caps => some (.mkfn f first.size, first.toList ++ caps.toList)
  | _ => none

def guardOf (ops : Array Oper) (o : Oper) : Option (Option (Nat × Bool)) :=
  match o.guard with
  | none => some none
  | some (j, want) => ((ops[j]?).bind (·.dst)).map fun t => some (t, want)

def compO (P : Program) (bt : Nat → Bool) (fz : Bool) (ops : Array Oper) (o : Oper) : Option SOp :=
  match guardOf ops o with
  | none => none
  | some g =>
    match o.op with
    | .store t x y => match szT P t, compX x, compX y, o.dst with
      | some sz, some x, some y, none => some (.st g sz x y)
      | _, _, _, _ => none
    | .call { callee := .builtin .append, args, argTypes } => match o.dst, args.toList, argTypes.toList with
      | some dst, [x, y], [t, u] => match P.underlying t, compX x, compX y with
        | some (.slice e), some x, some y => match P.info? e, zeroOf P e with
          | some i, some _ => if t = u ∧ 0 < i.size ∧ i.bytes ≤ 131072 then some (.app dst g fz i.size e x y) else none
          | _, _ => none
        | _, _, _ => none
      | _, _, _ => none
    | .call c => match compCd bt c with
      | some (x, xs) => match compX x, xs.mapM compX with
        | some x, some xs => some (.cd o.dst g x xs)
        | _, _ => none
      | none => match compA P fz o with
        | some (op, xs) => (xs.mapM compX).map fun xs => .a o.dst g op xs
        | none => none
    | _ => match compA P fz o with
      | some (op, xs) => (xs.mapM compX).map fun xs => .a o.dst g op xs
      | none => none

end Go.Sx
