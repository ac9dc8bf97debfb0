/- Own work: a layer over the kit: plain data, a walk over it, its soundness. -/
import Derived.Test.YtdkbjkccpnhjgaaDoorSxB
import Derived.WalkLawsBesides
set_option linter.unusedSectionVars false
set_option linter.unusedVariables false
set_option linter.unusedSimpArgs false
set_option linter.deprecated false
namespace Go.Sx
open Go.RowKit
variable [Globs] [Codes]

section inv
variable {φ : Mem} {h : Nat → Value} {v : Value}
theorem RV.bool_inv {b : Bool} (r : RV φ h v (.bool b)) : v = .bool b := by cases r with | pure r => cases r; rfl
theorem RV.int_inv {k : IntKind} {n : Int} (r : RV φ h v (.int k n)) : v = .int k n := by cases r with | pure r => cases r; rfl
theorem RV.str_inv {s : List UInt8} (r : RV φ h v (.str s)) : v = .string ⟨s.toArray⟩ := by cases r with | pure r => cases r; rfl
theorem RV.nils_inv (r : RV φ h v .nils) : v = .slice none 0 0 := by cases r with | pure r => cases r; rfl
theorem RV.slice_inv {es ext : List (List D)} (r : RV φ h v (.slice es ext)) : Rep φ v (.slice es ext) := by cases r with | pure r => exact r
theorem RV.vec_inv {i : Nat} (r : RV φ h v (.vec i)) : v = h i := by
  cases r with
  | pure r => cases r
  | vec => rfl
theorem RV.agg_inv {cs : List D} (r : RV φ h v (.agg cs)) : ∃ vs : Array Value, v = .agg vs ∧ vs.size = cs.length ∧ ∀ j d, cs[j]? = some d → RV φ h (vs.getD j Go.undef) d := by
  cases r with
  | pure r => cases r
  | agg vs _ hs hc => exact ⟨vs, rfl, hs, hc⟩
theorem RV.tuple_inv {cs : List D} (r : RV φ h v (.tuple cs)) : ∃ vs : Array Value, v = .tuple vs ∧ vs.size = cs.length ∧ ∀ j d, cs[j]? = some d → RV φ h (vs.getD j Go.undef) d := by
  cases r with
  | pure r => cases r
  | tuple vs _ hs hc => exact ⟨vs, rfl, hs, hc⟩
theorem RV.vec_live {i : Nat} (r : RV φ h v (.vec i)) : live (h i) = true := by
  cases r with
  | pure r => cases r
  | vec _ hl => exact hl
theorem RV.ptr_inv {i o : Nat} (r : RV φ h v (.ptr i o)) : ∃ b, h i = .pointer (some ⟨b, 0, none⟩) ∧ v = .pointer (some ⟨b, o, none⟩) := by
  cases r with
  | pure r => cases r
  | ptr _ _ b hh => exact ⟨b, hh, rfl⟩
theorem RV.fptr_inv {cs : List D} (r : RV φ h v (.fptr cs)) : ∃ (b o : Nat) (vals : Nat → Value), v = .pointer (some ⟨b, o, none⟩) ∧ (∀ j d, cs[j]? = some d → φ b (o + j) = some (vals j)) ∧ ∀ j d, cs[j]? = some d → Rep φ (vals j) d := by
  cases r with
  | pure r => cases r
  | fptr b o _ vals hm hr => exact ⟨b, o, vals, rfl, hm, hr⟩
theorem RV.vptr_inv {i a j : Nat} (r : RV φ h v (.vptr i a j)) : ∃ b sz len cap, sz ≠ 0 ∧ h i = .slice (some ⟨b, 0, none⟩) len cap ∧ v = .pointer (some ⟨b, a * sz + j, none⟩) := by
  cases r with
  | pure r => cases r
  | vptr _ _ _ b sz len cap hsz hh => exact ⟨b, sz, len, cap, hsz, hh, rfl⟩
end inv

theorem Rep.slice_inv {φ : Mem} {v : Value} {es ext : List (List D)} (r : Rep φ v (.slice es ext)) : (v = .slice none 0 0 ∧ es = [] ∧ ext = []) ∨
    ∃ (b off cap sz : Nat) (vals : Nat → Nat → Value), v = .slice (some ⟨b, off, none⟩) es.length cap ∧ es.length + ext.length ≤ cap ∧ (∀ e ∈ es ++ ext, e.length = sz) ∧
      (∀ i e j d, (es ++ ext)[i]? = some e → e[j]? = some d → φ b (off + i * sz + j) = some (vals i j)) ∧
      (∀ i e j d, (es ++ ext)[i]? = some e → e[j]? = some d → Rep φ (vals i j) d) := by
  cases r with
  | nil => exact .inl ⟨rfl, rfl, rfl⟩
  | slice b off cap sz _ _ vals hcap hsz hmem hrep => exact .inr ⟨b, off, cap, sz, vals, rfl, hcap, hsz, hmem, hrep⟩

def RVL (φ : Mem) (h : Nat → Value) : List Value → List D → Prop
  | [], [] => True
  | v :: vs, d :: ds => RV φ h v d ∧ RVL φ h vs ds
  | _, _ => False

/-- What an operation may come to: a value, or a call. -/
def OpOut (P : Program) (o : Oper) (ρ : Operand → Value) (w : World) (R : Value → World → Prop) : Prop :=
  (∃ v w', (execOp ρ o).run P w = .ok (.value v) w' ∧ R v w') ∨
  (∃ f vs, (execOp ρ o).run P w = .ok (.enter f vs) w ∧ Calls P f vs w fun e w' => ∃ v, e = .returned v ∧ R v w')

def hx (h : Nat → Value) (dst : Nat) (hv : Value) : Option Ob → Nat → Value
  | none => h
  | some _ => updH h dst hv

structure AStep (φ : Mem) (h : Nat → Value) (w : World) (dst : Nat) (d : D) (nb : Option Ob) (v : Value) (φ' : Mem) (hv : Value) (w' : World) : Prop where
  below : Below w.heap.size w w'
  mono : ∀ b o u, φ b o = some u → φ' b o = some u
  mem : ∀ b o u, φ' b o = some u → w'.cell? ⟨b, o, none⟩ = some u
  new : ∀ b o u, φ' b o = some u → φ b o = none → w.heap.size ≤ b
  rv : RV φ' (hx h dst hv nb) v d
  ob : ∀ o, nb = some o → ObR (w.heap.size ≤ ·) φ' (updH h dst hv) w' hv o

def APost (φ : Mem) (h : Nat → Value) (w : World) (dst : Nat) (K : D → Option Ob → Prop) (v : Value) (w' : World) : Prop :=
  ∃ d nb φ' hv, K d nb ∧ AStep φ h w dst d nb v φ' hv w'

abbrev Sub (φ : Mem) (w : World) : Prop := ∀ b o v, φ b o = some v → w.cell? ⟨b, o, none⟩ = some v

section
variable {P : Program} {o : Oper} {ρ : Operand → Value} {w : World} {φ : Mem} {h : Nat → Value} {dst : Nat} {K : D → Option Ob → Prop} {obs : Nat → Option Ob}

theorem APost.same (hφ : Sub φ w) {v : Value} {d : D} (hk : K d none) (hr : RV φ h v d) : APost φ h w dst K v w :=
  ⟨d, none, φ, Go.undef, hk, Below.refl _ _, fun _ _ _ h => h, hφ, fun _ _ _ h h' => (by rw [h] at h'; cases h'), hr, fun _ h => by cases h⟩

theorem OpOut.same (hφ : Sub φ w) {v : Value} {d : D} (he : (execOp ρ o).run P w = .ok (.value v) w) (hk : K d none) (hr : RV φ h v d) : OpOut P o ρ w (APost φ h w dst K) :=
  .inl ⟨v, w, he, APost.same hφ hk hr⟩

theorem OpOut.eqn (hφ : Sub φ w) {v : Value} {d : D} (he : (execOp ρ o).run P w = .ok (.value v) w) (hk : K d none) (hr : RV φ h v d) : OpOut P o ρ w (APost φ h w dst K) := OpOut.same hφ he hk hr

theorem rv_int {φ : Mem} {h : Nat → Value} (k : IntKind) (n : Int) : RV φ h (.int k n) (.int k n) := .pure (.int k n)
theorem rv_bool {φ : Mem} {h : Nat → Value} (b : Bool) : RV φ h (.bool b) (.bool b) := .pure (.bool b)
theorem rv_str {φ : Mem} {h : Nat → Value} (s : List UInt8) : RV φ h (.string ⟨s.toArray⟩) (.str s) := .pure (.str s)

theorem s_mv {x : Operand} (ho : o.op = .move x ∨ o.op = .assign x) (hφ : Sub φ w) {ds : List D} (hr : RVL φ h [ρ x] ds) (hev : evl P dst .mv ds obs K) : OpOut P o ρ w (APost φ h w dst K) := by
  match ds, hr, hev with
  | [d], hr, hev =>
    refine OpOut.same hφ (v := ρ x) ?_ hev hr.1
    rcases ho with ho | ho <;> simp [execOp, ho]

theorem s_pick {c a b : Operand} (ho : o.op = .pick c a b) (hφ : Sub φ w) {ds : List D} (hr : RVL φ h [ρ c, ρ a, ρ b] ds) (hev : evl P dst .pick ds obs K) : OpOut P o ρ w (APost φ h w dst K) := by
  match ds, hr, hev with
  | [.bool t, d1, d2], hr, hev =>
    have h1 := hr.1.bool_inv
    cases t
    · exact OpOut.same hφ (v := ρ b) (by simp [execOp, ho, h1, asBool]) hev hr.2.2.1
    · exact OpOut.same hφ (v := ρ a) (by simp [execOp, ho, h1, asBool]) hev hr.2.1

theorem eqGuard_int (op : BinOp) (t : TypeId) (x y : Operand) (k k' : IntKind) (a b : Int) (w : World) : (eqGuard op t x y (.int k a) (.int k' b)).run P w = .ok () w := by
  unfold eqGuard; split <;> rfl
theorem eqGuard_str (op : BinOp) (t : TypeId) (x y : Operand) (a b : ByteArray) (w : World) : (eqGuard op t x y (.string a) (.string b)).run P w = .ok () w := by
  unfold eqGuard; split <;> rfl
theorem eqGuard_bool (op : BinOp) (t : TypeId) (x y : Operand) (a b : Bool) (w : World) : (eqGuard op t x y (.bool a) (.bool b)).run P w = .ok () w := by
  unfold eqGuard; split <;> rfl

theorem beq_dec (a b : List UInt8) : (a == b) = decide (a = b) := by
  by_cases h : a = b
  · simp [h]
  · simp [h]
theorem beq_decI (a b : Int) : (a == b) = decide (a = b) := by
  by_cases h : a = b
  · simp [h]
  · simp [h]

theorem binI_run {op : BinOp} {t : TypeId} {k : IntKind} {a b : Int} {K : D → Prop} (h : binI op k a b K) (w : World) : ∃ d v, K d ∧ Rep φ v d ∧ (binOp op t (.int k a) (.int k b)).run P w = .ok v w := by
  cases op <;> simp only [binI] at h
  case add => exact ⟨_, _, h, .int _ _, by simp [binOp, Op.intArith]⟩
  case sub => exact ⟨_, _, h, .int _ _, by simp [binOp, Op.intArith]⟩
  case mul => exact ⟨_, _, h, .int _ _, by simp [binOp, Op.intArith]⟩
  case quo => exact ⟨_, _, h.2, .int _ _, by simp [binOp, Op.intDiv, h.1]⟩
  case rem => exact ⟨_, _, h.2, .int _ _, by simp [binOp, Op.intDiv, h.1]⟩
  case eql => exact ⟨_, _, h, .bool _, by simp [binOp, Op.intCmp, beq_decI]⟩
  case neq => exact ⟨_, _, h, .bool _, by simp [binOp, Op.intCmp, bne, beq_decI]⟩
  case lss => exact ⟨_, _, h, .bool _, by simp [binOp, Op.intCmp]⟩
  case leq => exact ⟨_, _, h, .bool _, by simp [binOp, Op.intCmp]⟩
  case gtr => exact ⟨_, _, h, .bool _, by simp [binOp, Op.intCmp]⟩
  case geq => exact ⟨_, _, h, .bool _, by simp [binOp, Op.intCmp]⟩
  case and => exact ⟨_, _, h, .int _ _, by simp [binOp, Op.intBits, bitI]⟩
  case or => exact ⟨_, _, h, .int _ _, by simp [binOp, Op.intBits, bitI]⟩
  case xor => exact ⟨_, _, h, .int _ _, by simp [binOp, Op.intBits, bitI]⟩
  case andNot => exact ⟨_, _, h, .int _ _, by simp [binOp, Op.intBits, bitI]⟩

theorem binS_run {op : BinOp} {t : TypeId} {a b : List UInt8} {K : D → Prop} (h : binS op a b K) (w : World) : ∃ d v, K d ∧ Rep φ v d ∧ (binOp op t (.string ⟨a.toArray⟩) (.string ⟨b.toArray⟩)).run P w = .ok v w := by
  have ea : (ByteArray.mk a.toArray).toList = a := ByteArray.toList_mk a
  have eb : (ByteArray.mk b.toArray).toList = b := ByteArray.toList_mk b
  cases op <;> simp only [binS] at h
  case add =>
    refine ⟨_, .string ⟨(a ++ b).toArray⟩, h.2, .str _, ?_⟩
    have hs : ¬ ((((ByteArray.mk a.toArray).size + (ByteArray.mk b.toArray).size : Nat) : Int) > IntKind.i64.max) := by
      have := h.1
      simp [ByteArray.size, IntKind.max, IntKind.signed, IntKind.bits]; omega
    simp only [binOp, Op.stringOp, hs, if_false]
    have : (ByteArray.mk a.toArray) ++ (ByteArray.mk b.toArray) = ⟨(a ++ b).toArray⟩ := by
      apply ByteArray.ext
      simp
    rw [this]; rfl
  case eql => exact ⟨_, _, h, .bool _, by simp [binOp, Op.stringOp, ea, eb, beq_dec]⟩
  case neq => exact ⟨_, _, h, .bool _, by simp [binOp, Op.stringOp, ea, eb, beq_dec]⟩
  case lss => exact ⟨_, _, h, .bool _, by simp [binOp, Op.stringOp, ea, eb]⟩
  case leq => exact ⟨_, _, h, .bool _, by simp [binOp, Op.stringOp, ea, eb, beq_dec]⟩
  case gtr => exact ⟨_, _, h, .bool _, by simp [binOp, Op.stringOp, ea, eb, beq_dec]⟩
  case geq => exact ⟨_, _, h, .bool _, by simp [binOp, Op.stringOp, ea, eb]⟩

theorem s_bin {op : BinOp} {t yt : TypeId} {x y : Operand} (ho : o.op = .binOp op t x y yt) (hφ : Sub φ w) {ds : List D} (hr : RVL φ h [ρ x, ρ y] ds) (hev : evl P dst (.bin op) ds obs K) :
    OpOut P o ρ w (APost φ h w dst K) := by
  match ds, hr, hev with
  | [.int k a, .int k' b], hr, hev =>
    obtain ⟨hk, hev⟩ := hev
    subst hk
    obtain ⟨d, v, h1, h2, h3⟩ := binI_run (P := P) (φ := φ) (t := t) (show binI op k a b (fun d => K d none) from hev) w
    exact OpOut.same hφ (v := v) (by simp [execOp, ho, hr.1.int_inv, hr.2.1.int_inv, eqGuard_int, h3]) h1 (.pure h2)
  | [.str a, .str b], hr, hev =>
    obtain ⟨d, v, h1, h2, h3⟩ := binS_run (P := P) (φ := φ) (t := t) (show binS op a b (fun d => K d none) from hev) w
    exact OpOut.same hφ (v := v) (by simp [execOp, ho, hr.1.str_inv, hr.2.1.str_inv, eqGuard_str, h3]) h1 (.pure h2)

theorem s_sh {left : Bool} {t yt : TypeId} {x y : Operand} (ho : o.op = .binOp (if left then .shl else .shr) t x y yt) (hφ : Sub φ w) {ds : List D} (hr : RVL φ h [ρ x, ρ y] ds) (hev : evl P dst (.sh left) ds obs K) :
    OpOut P o ρ w (APost φ h w dst K) := by
  match ds, hr, hev with
  | [.int k a, .int k' b], hr, hev =>
    obtain ⟨hb, hk⟩ := hev
    have hb' : ¬ b < 0 := by omega
    refine OpOut.same hφ (v := .int k (shI left k a b)) ?_ hk (rv_int _ _)
    cases left
    · simp only [Bool.false_eq_true, if_false] at ho
      simp [execOp, ho, hr.1.int_inv, hr.2.1.int_inv, eqGuard, binOp, Op.shift, hb', shI]
    · simp only [if_true] at ho
      simp [execOp, ho, hr.1.int_inv, hr.2.1.int_inv, eqGuard, binOp, Op.shift, hb', shI]

theorem s_binb {op : BinOp} {t yt : TypeId} {x y : Operand} (ho : o.op = .binOp op t x y yt) (ht : P.underlying t = some .bool) (hφ : Sub φ w) {ds : List D} (hr : RVL φ h [ρ x, ρ y] ds)
    (hev : evl P dst (.binb op) ds obs K) : OpOut P o ρ w (APost φ h w dst K) := by
  match op, ds, hr, hev with
  | .eql, [.bool a, .bool b], hr, hev =>
    exact OpOut.same hφ (v := .bool (a == b)) (by simp [execOp, ho, hr.1.bool_inv, hr.2.1.bool_inv, eqGuard_bool, run_eql_bool _ t a b ht]) hev (rv_bool _)
  | .neq, [.bool a, .bool b], hr, hev =>
    exact OpOut.same hφ (v := .bool (!(a == b))) (by simp [execOp, ho, hr.1.bool_inv, hr.2.1.bool_inv, eqGuard_bool, run_neq_bool _ t a b ht]) hev (rv_bool _)

theorem s_un {op : UnOp} {t : TypeId} {x : Operand} (ho : o.op = .unOp op t x) (hφ : Sub φ w) {ds : List D} (hr : RVL φ h [ρ x] ds) (hev : evl P dst (.un op) ds obs K) :
    OpOut P o ρ w (APost φ h w dst K) := by
  match op, ds, hr, hev with
  | .not, [.bool a], hr, hev => exact OpOut.same hφ (v := .bool (!a)) (by simp [execOp, ho, hr.1.bool_inv, Op.unary]) hev (rv_bool _)
  | .neg, [.int k a], hr, hev => exact OpOut.same hφ (v := .int k (k.wrap (0 - a))) (by simp [execOp, ho, hr.1.int_inv, Op.unary, Op.intArith]) hev (rv_int _ _)

theorem s_conv {s d : TypeId} {k : IntKind} {x : Operand} (ho : o.op = .convert s d x) (hs : (P.underlying s).isSome = true) (hd : P.underlying d = some (.int k)) (hφ : Sub φ w) {ds : List D} (hr : RVL φ h [ρ x] ds)
    (hev : evl P dst (.conv k) ds obs K) : OpOut P o ρ w (APost φ h w dst K) := by
  match ds, hr, hev with
  | [.int q n], hr, hev =>
    refine OpOut.same hφ (v := .int k (k.wrap n)) ?_ hev (rv_int _ _)
    simp only [execOp, ho, hr.1.int_inv]
    have := run_convert_int (P := P) (w := w) s d q n
    obtain ⟨u, hu⟩ := Option.isSome_iff_exists.1 hs
    simp [convert, run_underlying hu, run_underlying hd, Conv.intToInt]

end
end Go.Sx
