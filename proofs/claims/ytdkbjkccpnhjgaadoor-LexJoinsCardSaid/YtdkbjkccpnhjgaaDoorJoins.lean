/- Join of the program, Join of the reference model, the conversion of tokens: what they compute. -/
import Derived.Test.YtdkbjkccpnhjgaaDoorRun
import Derived.Test.YtdkbjkccpnhjgaaDoorSxTa
set_option linter.unusedSectionVars false
set_option linter.unusedVariables false
set_option linter.unusedSimpArgs false
set_option linter.deprecated false
namespace Go.Proofs.YtdkbjkccpnhjgaaDoor
open Go.Sx

theorem wr {n : Int} (h0 : -9223372036854775808 ≤ n) (h1 : n ≤ 9223372036854775807) : IntKind.i64.wrap n = n := by
  rw [IntKind.wrap_i64]; omega

/-- Texts, joined by blanks. -/
def jn (ts : List (List UInt8)) : List UInt8 := Lib.join ts [32]

theorem jn_take (ts : List (List UInt8)) (i : Nat) (t : List UInt8) (h : ts[i]? = some t) : jn (ts.take (i + 1)) = if i = 0 then t else jn (ts.take i) ++ [32] ++ t := by
  unfold jn
  cases ts with
  | nil => simp at h
  | cons x r =>
    cases i with
    | zero => simp at h; subst h; simp [Lib.join_one]
    | succ i =>
      have h' : r[i]? = some t := by simpa using h
      rw [List.take_succ_cons, Lib.join_cons, Lib.joinTail_take_succ _ _ _ _ h']
      rw [List.take_succ_cons, Lib.join_cons]
      simp

theorem jn_take_le (ts : List (List UInt8)) (i : Nat) : (jn (ts.take i)).length ≤ (jn ts).length := by
  unfold jn
  cases ts with
  | nil => simp
  | cons x r =>
    cases i with
    | zero => simp [Lib.join_nil]
    | succ i =>
      rw [List.take_succ_cons, Lib.join_cons, Lib.join_cons]
      have := Lib.joinTail_take_le [32] r i
      simp only [List.length_append]
      omega

/-- Elements whose middle cell is the text. -/
structure Txt (es : List (List D)) (ts : List (List UInt8)) : Prop where
  len : es.length = ts.length
  get : ∀ (i : Nat) (t : List UInt8), ts[i]? = some t → ∃ x y : D, es[i]? = some [x, D.str t, y]

theorem dtrue {b : Bool} (h : b = true) : D.bool b = D.bool true := by rw [h]
theorem dfalse {b : Bool} (h : b = false) : D.bool b = D.bool false := by rw [h]

def bd9 : SC := (SC.lps sc9).getD 0 .skip
def hd9 (es ext : List (List D)) (a : List UInt8) (i : Int) : St := ⟨[(0, .slice es ext), (3, .str a), (4, .int .i64 i)], []⟩
def ex9 (es ext : List (List D)) (a : List UInt8) (i : Int) : St := ⟨[(8, .bool (decide (i < (es.length : Int)))), (7, .int .i64 (es.length : Int)), (6, .slice es ext), (5, .int .i64 i), (0, .slice es ext), (3, .str a), (4, .int .i64 i)], []⟩

theorem rnd9a (es ext : List (List D)) (a t : List UInt8) (i : Int) (x y : D) : rndS Tryd.prog 0 bd9 [0, 3, 4] (hd9 es ext a i) [.d (.bool true), .d (.bool false), .c [x, .str t, y]] =
    some ([D.bool (decide (i < (es.length : Int))) = D.bool true, D.bool (decide (0 < i)) = D.bool false, 0 ≤ i, es[i.toNat]? = some [x, D.str t, y], a.length + t.length ≤ 4611686018427387904], hd9 es ext (a ++ t) (IntKind.i64.wrap (i + 1))) := by kernel_rfl
theorem rnd9b (es ext : List (List D)) (a t : List UInt8) (i : Int) (x y : D) : rndS Tryd.prog 0 bd9 [0, 3, 4] (hd9 es ext a i) [.d (.bool true), .d (.bool true), .c [x, .str t, y]] =
    some ([D.bool (decide (i < (es.length : Int))) = D.bool true, D.bool (decide (0 < i)) = D.bool true, a.length + 1 ≤ 4611686018427387904, 0 ≤ i, es[i.toNat]? = some [x, D.str t, y], (a ++ [32]).length + t.length ≤ 4611686018427387904], hd9 es ext (a ++ [32] ++ t) (IntKind.i64.wrap (i + 1))) := by kernel_rfl
theorem out9 (es ext : List (List D)) (a : List UInt8) (i : Int) : runS Tryd.prog 0 bd9 (hd9 es ext a i) [.d (.bool false)] =
    some ([D.bool (decide (i < (es.length : Int))) = D.bool false], (.exit 0, ex9 es ext a i), []) := by kernel_rfl

theorem loop9 (es ext : List (List D)) (ts : List (List UInt8)) (hT : Txt es ts) (hn : ts.length ≤ 1000000) (hB : (jn ts).length ≤ 1000000) :
    sw Tryd.prog 0 (.loop [0, 3, 4] bd9) (fun e s => e = .exit 0 ∧ s = ex9 es ext (jn ts) (es.length : Int)) ⟨[(4, .int .i64 0), (3, .str []), (2, .str []), (0, .slice es ext)], []⟩ := by
  have hlen := hT.len
  refine loop_fam [0, 3, 4] ts.length (fun i => hd9 es ext (jn (ts.take i)) (i : Int)) (by kernel_rfl) (fun i hi => ?_) ?_
  · obtain ⟨t, ht⟩ : ∃ t, ts[i]? = some t := ⟨ts[i], List.getElem?_eq_getElem hi⟩
    obtain ⟨x, y, hxy⟩ := hT.get i t ht
    have hj := jn_take ts i t ht
    have hj2 := jn_take_le ts (i + 1)
    have hw : IntKind.i64.wrap ((i : Int) + 1) = ((i + 1 : Nat) : Int) := by rw [wr (by omega) (by omega)]; rfl
    by_cases h0 : i = 0
    · subst h0
      rw [if_pos rfl] at hj
      have hl : t.length ≤ 1000000 := by rw [← hj]; omega
      refine rndS_sound (R := fun s => s = hd9 es ext (jn (ts.take (0 + 1))) ((0 + 1 : Nat) : Int)) (rnd9a es ext _ t _ x y) ⟨congrArg D.bool (by simp; omega), congrArg D.bool (by simp), by simp, by simpa using hxy, by simp [jn, Lib.join_nil]; omega, trivial⟩ ?_
      rw [hj, hw]; rfl
    · rw [if_neg h0] at hj
      have hl : (jn (ts.take i) ++ [32] ++ t).length ≤ 1000000 := by rw [← hj]; omega
      simp only [List.length_append, List.length_cons, List.length_nil] at hl
      refine rndS_sound (R := fun s => s = hd9 es ext (jn (ts.take (i + 1))) ((i + 1 : Nat) : Int)) (rnd9b es ext _ t _ x y) ⟨congrArg D.bool (by simp; omega), congrArg D.bool (by simp; omega), by omega, by omega, by simpa using hxy, by simp; omega, trivial⟩ ?_
      rw [hj, hw]
  · have h1 : jn (ts.take ts.length) = jn ts := by rw [List.take_length]
    simp only [h1]
    refine outS_sound (out9 es ext _ _) ⟨congrArg D.bool (by simp; omega), trivial⟩ (by simp) ⟨rfl, ?_⟩
    rw [hlen]

theorem fin9 (es ext : List (List D)) (j : List UInt8) : finS Tryd.prog 23 sc9 rs9 [.slice es ext] [.s (.exit 0) (ex9 es ext j (es.length : Int))] =
    some ([sw Tryd.prog 0 (.loop [0, 3, 4] bd9) (fun e s => e = .exit 0 ∧ s = ex9 es ext j (es.length : Int)) ⟨[(4, .int .i64 0), (3, .str []), (2, .str []), (0, .slice es ext)], []⟩], .str j) := by kernel_rfl

/-- Join of the reference model. -/
theorem ref_join (hd : DrawSound Tryd.prog) (es ext : List (List D)) (ts : List (List UInt8)) (hT : Txt es ts) (hn : ts.length ≤ 1000000) (hB : (jn ts).length ≤ 1000000) : FnOK Tryd.prog 9 [.slice es ext] (.str (jn ts)) :=
  FnOK.finS hd ⟨fc9, pf9⟩ _ (fin9 es ext _) ⟨loop9 es ext ts hT hn hB, trivial⟩

def bd8 : SC := (SC.lps sc8).getD 0 .skip
/-- At the loop's head: the texts so far. -/
def hd8 (es ext : List (List D)) (a : List (List D)) (i : Int) : St := match a with
  | [] => ⟨[(3, .nils), (6, .slice es ext), (7, .int .i64 (es.length : Int)), (8, .int .i64 i)], []⟩
  | a => ⟨[(3, .vec 0), (6, .slice es ext), (7, .int .i64 (es.length : Int)), (8, .int .i64 i)], [(0, .arr true 1 9 a)]⟩
def ex8 (es ext : List (List D)) (a : List (List D)) (i : Int) : St := match a with
  | [] => ⟨[(9, .bool (decide (i < (es.length : Int)))), (3, .nils), (6, .slice es ext), (7, .int .i64 (es.length : Int)), (8, .int .i64 i)], []⟩
  | a => ⟨[(9, .bool (decide (i < (es.length : Int)))), (3, .vec 0), (6, .slice es ext), (7, .int .i64 (es.length : Int)), (8, .int .i64 i)], [(0, .arr true 1 9 a)]⟩

/-- A token of the program. -/
abbrev Tk := Int × List UInt8 × Int
def tc (t : Tk) : List D := [.int .u8 t.1, .str t.2.1, .int .i64 t.2.2]
/-- A token of the reference model. -/
def tr (t : Tk) : List D := [.int .i64 t.1, .str t.2.1, .int .i64 t.2.2]
def tx (ts : List Tk) : List (List UInt8) := ts.map fun t => t.2.1
def sx (ts : List (List UInt8)) : List (List D) := ts.map fun t => [.str t]
def sy (t : Tk) : List D := [.str t.2.1]

theorem rnd8a (es ext : List (List D)) (t : List UInt8) (i k a : Int) : rndS Tryd.prog 0 bd8 [3, 6, 7, 8] (hd8 es ext [] i) [.d (.bool true), .c (tc (k, t, a))] =
    some ([D.bool (decide (i < (es.length : Int))) = D.bool true, 0 ≤ i, es[i.toNat]? = some (tc (k, t, a)), true = true, [[D.str t]].length ≤ 1073741824], hd8 es ext [[.str t]] (IntKind.i64.wrap (i + 1))) := by kernel_rfl
theorem rnd8b (es ext : List (List D)) (t : List UInt8) (i k a : Int) (b : List D) (r : List (List D)) : rndS Tryd.prog 0 bd8 [3, 6, 7, 8] (hd8 es ext (b :: r) i) [.d (.bool true), .c (tc (k, t, a))] =
    some ([D.bool (decide (i < (es.length : Int))) = D.bool true, 0 ≤ i, es[i.toNat]? = some (tc (k, t, a)), true = true, (b :: r).length + [[D.str t]].length ≤ 1073741824], hd8 es ext ((b :: r) ++ [[.str t]]) (IntKind.i64.wrap (i + 1))) := by kernel_rfl
theorem out8a (es ext : List (List D)) (i : Int) : runS Tryd.prog 0 bd8 (hd8 es ext [] i) [.d (.bool false)] =
    some ([D.bool (decide (i < (es.length : Int))) = D.bool false], (.exit 0, ex8 es ext [] i), []) := by kernel_rfl
theorem out8b (es ext : List (List D)) (i : Int) (b : List D) (r : List (List D)) : runS Tryd.prog 0 bd8 (hd8 es ext (b :: r) i) [.d (.bool false)] =
    some ([D.bool (decide (i < (es.length : Int))) = D.bool false], (.exit 0, ex8 es ext (b :: r) i), []) := by kernel_rfl

theorem sx_take (ts : List Tk) (i : Nat) (t : Tk) (h : ts[i]? = some t) : sx (tx (ts.take (i + 1))) = sx (tx (ts.take i)) ++ [sy t] := by
  rw [List.take_add_one, h]; simp [sx, tx, sy]

theorem loop8 (ext : List (List D)) (ts : List Tk) (hn : ts.length ≤ 1000000) :
    sw Tryd.prog 0 (.loop [3, 6, 7, 8] bd8) (fun e s => e = .exit 0 ∧ s = ex8 (ts.map tc) ext (sx (tx ts)) ((ts.map tc).length : Int))
      ⟨[(8, .int .i64 0), (7, .int .i64 ((ts.map tc).length : Int)), (6, .slice (ts.map tc) ext), (3, .nils), (2, .str []), (0, .slice (ts.map tc) ext)], []⟩ := by
  refine loop_fam [3, 6, 7, 8] ts.length (fun i => hd8 (ts.map tc) ext (sx (tx (ts.take i))) (i : Int)) (by kernel_rfl) (fun i hi => ?_) ?_
  · obtain ⟨t, ht⟩ : ∃ t, ts[i]? = some t := ⟨ts[i], List.getElem?_eq_getElem hi⟩
    have hw : IntKind.i64.wrap ((i : Int) + 1) = ((i + 1 : Nat) : Int) := by rw [wr (by omega) (by omega)]; rfl
    have hs := sx_take ts i t ht
    have hg : (ts.map tc)[(i : Int).toNat]? = some (tc (t.1, t.2.1, t.2.2)) := by simp [ht]
    have hl : (sx (tx (ts.take i))).length ≤ 1000000 := by simp [sx, tx]; omega
    refine sw_mono (Q := thenS (fun s1 => s1.canon 0 [3, 6, 7, 8] = hd8 (ts.map tc) ext (sx (tx (ts.take i)) ++ [sy t]) (IntKind.i64.wrap ((i : Int) + 1))) (fun e s => e = .exit 0 ∧ s = ex8 (ts.map tc) ext (sx (tx ts)) ((ts.map tc).length : Int))) ?_ (fun e s h => by rw [hs, ← hw]; exact h)
    cases hq : sx (tx (ts.take i)) with
    | nil =>
      exact rndS_sound (R := fun s => s = hd8 (ts.map tc) ext ([] ++ [sy t]) (IntKind.i64.wrap ((i : Int) + 1))) (rnd8a _ ext t.2.1 _ t.1 t.2.2) ⟨congrArg D.bool (by simp; omega), by omega, hg, rfl, by simp, trivial⟩ rfl
    | cons b r =>
      rw [hq] at hl
      exact rndS_sound (R := fun s => s = hd8 (ts.map tc) ext ((b :: r) ++ [sy t]) (IntKind.i64.wrap ((i : Int) + 1))) (rnd8b _ ext t.2.1 _ t.1 t.2.2 b r) ⟨congrArg D.bool (by simp; omega), by omega, hg, rfl, by simp at hl ⊢; omega, trivial⟩ rfl
  · simp only [List.take_length]
    have hlen : ((ts.map tc).length : Int) = (ts.length : Int) := by simp
    cases hq : sx (tx ts) with
    | nil => exact outS_sound (out8a _ ext _) ⟨congrArg D.bool (by simp), trivial⟩ (by simp) ⟨rfl, by rw [hlen]⟩
    | cons b r => exact outS_sound (out8b _ ext _ b r) ⟨congrArg D.bool (by simp), trivial⟩ (by simp) ⟨rfl, by rw [hlen]⟩

theorem fin8a (es ext : List (List D)) (j : List UInt8) : finS Tryd.prog 20 sc8 rs8 [.slice es ext] [.s (.exit 0) (ex8 es ext [] (es.length : Int)), .d (.str j)] =
    some ([sw Tryd.prog 0 (.loop [3, 6, 7, 8] bd8) (fun e s => e = .exit 0 ∧ s = ex8 es ext [] (es.length : Int)) ⟨[(8, .int .i64 0), (7, .int .i64 (es.length : Int)), (6, .slice es ext), (3, .nils), (2, .str []), (0, .slice es ext)], []⟩,
      FnOK Tryd.prog 15 [.slice [] [], .str [32]] (.str j)], .str j) := by kernel_rfl
theorem fin8b (es ext : List (List D)) (b : List D) (r : List (List D)) (j : List UInt8) : finS Tryd.prog 20 sc8 rs8 [.slice es ext] [.s (.exit 0) (ex8 es ext (b :: r) (es.length : Int)), .d (.str j)] =
    some ([sw Tryd.prog 0 (.loop [3, 6, 7, 8] bd8) (fun e s => e = .exit 0 ∧ s = ex8 es ext (b :: r) (es.length : Int)) ⟨[(8, .int .i64 0), (7, .int .i64 (es.length : Int)), (6, .slice es ext), (3, .nils), (2, .str []), (0, .slice es ext)], []⟩,
      FnOK Tryd.prog 15 [.slice (b :: r) [], .str [32]] (.str j)], .str j) := by kernel_rfl

/-- strings.Join, as it is used here. -/
def JoinOK : Prop := ∀ ts : List (List UInt8), ts.length ≤ 1000000 → (jn ts).length ≤ 1000000 → FnOK Tryd.prog 15 [.slice (sx ts) [], .str [32]] (.str (jn ts))

/-- Join of the program. -/
theorem lex_join (hd : DrawSound Tryd.prog) (hJ : JoinOK) (ts : List Tk) (ext : List (List D)) (hn : ts.length ≤ 1000000) (hB : (jn (tx ts)).length ≤ 1000000) : FnOK Tryd.prog 8 [.slice (ts.map tc) ext] (.str (jn (tx ts))) := by
  have hl := loop8 ext ts hn
  have hj := hJ (tx ts) (by simpa [tx] using hn) hB
  cases hq : sx (tx ts) with
  | nil => rw [hq] at hl hj; exact FnOK.finS hd ⟨fc8, pf8⟩ _ (fin8a (ts.map tc) ext _) ⟨hl, hj, trivial⟩
  | cons b r => rw [hq] at hl hj; exact FnOK.finS hd ⟨fc8, pf8⟩ _ (fin8b (ts.map tc) ext b r _) ⟨hl, hj, trivial⟩

def bd10 : SC := (SC.lps sc10).getD 0 .skip
def hd10 (es ext : List (List D)) (a : List (List D)) (i : Int) : St := match a with
  | [] => ⟨[(0, .slice es ext), (3, .nils), (4, .int .i64 i)], []⟩
  | a => ⟨[(0, .slice es ext), (3, .vec 0), (4, .int .i64 i)], [(0, .arr true 3 44 a)]⟩
def ex10 (es ext : List (List D)) (a : List (List D)) (i : Int) : St := match a with
  | [] => ⟨[(8, .bool (decide (i < (es.length : Int)))), (7, .int .i64 (es.length : Int)), (6, .slice es ext), (5, .int .i64 i), (0, .slice es ext), (3, .nils), (4, .int .i64 i)], []⟩
  | a => ⟨[(8, .bool (decide (i < (es.length : Int)))), (7, .int .i64 (es.length : Int)), (6, .slice es ext), (5, .int .i64 i), (0, .slice es ext), (3, .vec 0), (4, .int .i64 i)], [(0, .arr true 3 44 a)]⟩

theorem rnd10a (es ext : List (List D)) (t : List UInt8) (i k a : Int) : rndS Tryd.prog 0 bd10 [0, 3, 4] (hd10 es ext [] i) [.d (.bool true), .c (tc (k, t, a)), .c (tc (k, t, a)), .c (tc (k, t, a))] =
    some ([D.bool (decide (i < (es.length : Int))) = D.bool true, 0 ≤ i, es[i.toNat]? = some (tc (k, t, a)), 0 ≤ i, es[i.toNat]? = some (tc (k, t, a)), 0 ≤ i, es[i.toNat]? = some (tc (k, t, a)), true = true, [tr (IntKind.i64.wrap k, t, a)].length ≤ 1073741824], hd10 es ext [tr (IntKind.i64.wrap k, t, a)] (IntKind.i64.wrap (i + 1))) := by kernel_rfl
theorem rnd10b (es ext : List (List D)) (t : List UInt8) (i k a : Int) (b : List D) (r : List (List D)) : rndS Tryd.prog 0 bd10 [0, 3, 4] (hd10 es ext (b :: r) i) [.d (.bool true), .c (tc (k, t, a)), .c (tc (k, t, a)), .c (tc (k, t, a))] =
    some ([D.bool (decide (i < (es.length : Int))) = D.bool true, 0 ≤ i, es[i.toNat]? = some (tc (k, t, a)), 0 ≤ i, es[i.toNat]? = some (tc (k, t, a)), 0 ≤ i, es[i.toNat]? = some (tc (k, t, a)), true = true, (b :: r).length + [tr (IntKind.i64.wrap k, t, a)].length ≤ 1073741824], hd10 es ext ((b :: r) ++ [tr (IntKind.i64.wrap k, t, a)]) (IntKind.i64.wrap (i + 1))) := by kernel_rfl
theorem out10a (es ext : List (List D)) (i : Int) : runS Tryd.prog 0 bd10 (hd10 es ext [] i) [.d (.bool false)] =
    some ([D.bool (decide (i < (es.length : Int))) = D.bool false], (.exit 0, ex10 es ext [] i), []) := by kernel_rfl
theorem out10b (es ext : List (List D)) (i : Int) (b : List D) (r : List (List D)) : runS Tryd.prog 0 bd10 (hd10 es ext (b :: r) i) [.d (.bool false)] =
    some ([D.bool (decide (i < (es.length : Int))) = D.bool false], (.exit 0, ex10 es ext (b :: r) i), []) := by kernel_rfl

def tw (t : Tk) : List D := tr (IntKind.i64.wrap t.1, t.2.1, t.2.2)

theorem loop10 (ext : List (List D)) (ts : List Tk) (hn : ts.length ≤ 1000000) :
    sw Tryd.prog 0 (.loop [0, 3, 4] bd10) (fun e s => e = .exit 0 ∧ s = ex10 (ts.map tc) ext (ts.map tw) ((ts.map tc).length : Int))
      ⟨[(4, .int .i64 0), (3, .nils), (2, .nils), (0, .slice (ts.map tc) ext)], []⟩ := by
  refine loop_fam [0, 3, 4] ts.length (fun i => hd10 (ts.map tc) ext ((ts.take i).map tw) (i : Int)) (by kernel_rfl) (fun i hi => ?_) ?_
  · obtain ⟨t, ht⟩ : ∃ t, ts[i]? = some t := ⟨ts[i], List.getElem?_eq_getElem hi⟩
    have hw : IntKind.i64.wrap ((i : Int) + 1) = ((i + 1 : Nat) : Int) := by rw [wr (by omega) (by omega)]; rfl
    have hs : (ts.take (i + 1)).map tw = (ts.take i).map tw ++ [tw t] := by rw [List.take_add_one, ht]; simp
    have hg : (ts.map tc)[(i : Int).toNat]? = some (tc (t.1, t.2.1, t.2.2)) := by simp [ht]
    have hl : ((ts.take i).map tw).length ≤ 1000000 := by simp; omega
    refine sw_mono (Q := thenS (fun s1 => s1.canon 0 [0, 3, 4] = hd10 (ts.map tc) ext ((ts.take i).map tw ++ [tw t]) (IntKind.i64.wrap ((i : Int) + 1))) (fun e s => e = .exit 0 ∧ s = ex10 (ts.map tc) ext (ts.map tw) ((ts.map tc).length : Int))) ?_ (fun e s h => by rw [hs, ← hw]; exact h)
    cases hq : (ts.take i).map tw with
    | nil =>
      exact rndS_sound (R := fun s => s = hd10 (ts.map tc) ext ([] ++ [tw t]) (IntKind.i64.wrap ((i : Int) + 1))) (rnd10a _ ext t.2.1 _ t.1 t.2.2) ⟨congrArg D.bool (by simp; omega), by omega, hg, by omega, hg, by omega, hg, rfl, by simp, trivial⟩ rfl
    | cons b r =>
      rw [hq] at hl
      exact rndS_sound (R := fun s => s = hd10 (ts.map tc) ext ((b :: r) ++ [tw t]) (IntKind.i64.wrap ((i : Int) + 1))) (rnd10b _ ext t.2.1 _ t.1 t.2.2 b r) ⟨congrArg D.bool (by simp; omega), by omega, hg, by omega, hg, by omega, hg, rfl, by simp at hl ⊢; omega, trivial⟩ rfl
  · simp only [List.take_length]
    have hlen : ((ts.map tc).length : Int) = (ts.length : Int) := by simp
    cases hq : ts.map tw with
    | nil => exact outS_sound (out10a _ ext _) ⟨congrArg D.bool (by simp), trivial⟩ (by simp) ⟨rfl, by rw [hlen]⟩
    | cons b r => exact outS_sound (out10b _ ext _ b r) ⟨congrArg D.bool (by simp), trivial⟩ (by simp) ⟨rfl, by rw [hlen]⟩

theorem fin10a (es ext : List (List D)) : finS Tryd.prog 32 sc10 rs10 [.slice es ext] [.s (.exit 0) (ex10 es ext [] (es.length : Int))] =
    some ([sw Tryd.prog 0 (.loop [0, 3, 4] bd10) (fun e s => e = .exit 0 ∧ s = ex10 es ext [] (es.length : Int)) ⟨[(4, .int .i64 0), (3, .nils), (2, .nils), (0, .slice es ext)], []⟩], .slice [] []) := by kernel_rfl
theorem fin10b (es ext : List (List D)) (b : List D) (r : List (List D)) : finS Tryd.prog 32 sc10 rs10 [.slice es ext] [.s (.exit 0) (ex10 es ext (b :: r) (es.length : Int))] =
    some ([sw Tryd.prog 0 (.loop [0, 3, 4] bd10) (fun e s => e = .exit 0 ∧ s = ex10 es ext (b :: r) (es.length : Int)) ⟨[(4, .int .i64 0), (3, .nils), (2, .nils), (0, .slice es ext)], []⟩], .own 3 44 (b :: r)) := by kernel_rfl

/-- What theirs hands back. -/
def thR (ts : List Tk) : D := match ts.map tw with
  | [] => .slice [] []
  | b :: r => .own 3 44 (b :: r)

theorem theirs_ok (hd : DrawSound Tryd.prog) (ts : List Tk) (ext : List (List D)) (hn : ts.length ≤ 1000000) : FnOK Tryd.prog 10 [.slice (ts.map tc) ext] (thR ts) := by
  have hl := loop10 ext ts hn
  unfold thR
  cases hq : ts.map tw with
  | nil => rw [hq] at hl; exact FnOK.finS hd ⟨fc10, pf10⟩ _ (fin10a (ts.map tc) ext) ⟨hl, trivial⟩
  | cons b r => rw [hq] at hl; exact FnOK.finS hd ⟨fc10, pf10⟩ _ (fin10b (ts.map tc) ext b r) ⟨hl, trivial⟩

end Go.Proofs.YtdkbjkccpnhjgaaDoor
