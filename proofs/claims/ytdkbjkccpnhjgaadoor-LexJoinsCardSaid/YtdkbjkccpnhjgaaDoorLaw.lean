/- LexJoins: it returns true for all tokens. -/
import Derived.Test.YtdkbjkccpnhjgaaDoorJoins
set_option linter.unusedSectionVars false
set_option linter.unusedVariables false
set_option linter.unusedSimpArgs false
set_option linter.deprecated false
namespace Go.Proofs.YtdkbjkccpnhjgaaDoor
open Go.Sx

def bd3 : SC := (SC.lps sc3).getD 0 .skip
def hd3 (es ext : List (List D)) (n i : Int) : St := ⟨[(0, .slice es ext), (3, .int .i64 n), (4, .int .i64 i)], []⟩
def ex3 (es ext : List (List D)) (n i : Int) : St := ⟨[(8, .bool (decide (i < (es.length : Int)))), (7, .int .i64 (es.length : Int)), (6, .slice es ext), (5, .int .i64 i), (0, .slice es ext), (3, .int .i64 n), (4, .int .i64 i)], []⟩

theorem rnd3 (es ext : List (List D)) (t : List UInt8) (n i k a : Int) : rndS Tryd.prog 0 bd3 [0, 3, 4] (hd3 es ext n i) [.d (.bool true), .c (tc (k, t, a))] =
    some ([D.bool (decide (i < (es.length : Int))) = D.bool true, 0 ≤ i, es[i.toNat]? = some (tc (k, t, a))], hd3 es ext (IntKind.i64.wrap (n + (t.length : Int))) (IntKind.i64.wrap (i + 1))) := by kernel_rfl
theorem out3 (es ext : List (List D)) (n i : Int) : runS Tryd.prog 0 bd3 (hd3 es ext n i) [.d (.bool false)] =
    some ([D.bool (decide (i < (es.length : Int))) = D.bool false], (.exit 0, ex3 es ext n i), []) := by kernel_rfl

/-- The sum of the lengths, as the program has it. -/
def sum3 (ts : List Tk) : Int := ts.foldl (fun n t => IntKind.i64.wrap (n + (t.2.1.length : Int))) 0

theorem loop3 (ext : List (List D)) (ts : List Tk) (hn : ts.length ≤ 1000000000000000) :
    sw Tryd.prog 0 (.loop [0, 3, 4] bd3) (fun e s => e = .exit 0 ∧ s = ex3 (ts.map tc) ext (sum3 ts) ((ts.map tc).length : Int))
      ⟨[(4, .int .i64 0), (3, .int .i64 0), (2, .bool false), (0, .slice (ts.map tc) ext)], []⟩ := by
  refine loop_fam [0, 3, 4] ts.length (fun i => hd3 (ts.map tc) ext (sum3 (ts.take i)) (i : Int)) (by kernel_rfl) (fun i hi => ?_) ?_
  · obtain ⟨t, ht⟩ : ∃ t, ts[i]? = some t := ⟨ts[i], List.getElem?_eq_getElem hi⟩
    have hw : IntKind.i64.wrap ((i : Int) + 1) = ((i + 1 : Nat) : Int) := by rw [wr (by omega) (by omega)]; rfl
    have hs : sum3 (ts.take (i + 1)) = IntKind.i64.wrap (sum3 (ts.take i) + (t.2.1.length : Int)) := by
      unfold sum3; rw [List.take_add_one, ht]; simp
    have hg : (ts.map tc)[(i : Int).toNat]? = some (tc (t.1, t.2.1, t.2.2)) := by simp [ht]
    rw [hs, ← hw]
    exact rndS_sound (R := fun s => s = hd3 (ts.map tc) ext (IntKind.i64.wrap (sum3 (ts.take i) + (t.2.1.length : Int))) (IntKind.i64.wrap ((i : Int) + 1))) (rnd3 _ ext t.2.1 _ _ t.1 t.2.2) ⟨congrArg D.bool (by simp; omega), by omega, hg, trivial⟩ rfl
  · simp only [List.take_length]
    have hlen : ((ts.map tc).length : Int) = (ts.length : Int) := by simp
    exact outS_sound (out3 _ ext _ _) ⟨congrArg D.bool (by simp), trivial⟩ (by simp) ⟨rfl, by rw [hlen]⟩

def lp3 (es ext : List (List D)) (n : Int) : Prop := sw Tryd.prog 0 (.loop [0, 3, 4] bd3) (fun e s => e = .exit 0 ∧ s = ex3 es ext n (es.length : Int)) ⟨[(4, .int .i64 0), (3, .int .i64 0), (2, .bool false), (0, .slice es ext)], []⟩

theorem fin3a (es ext : List (List D)) (n : Int) : finS Tryd.prog 36 sc3 rs3 [.slice es ext] [.s (.exit 0) (ex3 es ext n (es.length : Int)), .d (.bool true), .d (.bool true), .d (.bool true), .d (.bool true), .d (.bool true)] =
    some ([lp3 es ext n, decide (300 < (es.length : Int)) = true, decide (300 < (es.length : Int)) = true, D.bool (decide (300 < (es.length : Int))) = D.bool true, D.bool true = D.bool true, FnOK Tryd.prog 7 [] (D.bool true)], .bool true) := by kernel_rfl
theorem fin3b (es ext : List (List D)) (n : Int) : finS Tryd.prog 36 sc3 rs3 [.slice es ext] [.s (.exit 0) (ex3 es ext n (es.length : Int)), .d (.bool false), .d (.bool false), .d (.bool false), .d (.bool true), .d (.bool true)] =
    some ([lp3 es ext n, decide (300 < (es.length : Int)) = false, decide (300 < (es.length : Int)) = false, D.bool (decide (300 < (es.length : Int))) = D.bool false, D.bool (decide (4000 < n)) = D.bool true, FnOK Tryd.prog 7 [] (D.bool true)], .bool true) := by kernel_rfl
theorem fin3c (es ext es2 : List (List D)) (n : Int) (j : List UInt8) : finS Tryd.prog 36 sc3 rs3 [.slice es ext] [.s (.exit 0) (ex3 es ext n (es.length : Int)), .d (.bool false), .d (.bool false), .d (.bool false), .d (.bool false), .d (.str j), .d (.own 3 44 es2), .d (.str j), .d (.bool true), .d (.bool true), .d (.bool true)] =
    some ([lp3 es ext n, decide (300 < (es.length : Int)) = false, decide (300 < (es.length : Int)) = false, D.bool (decide (300 < (es.length : Int))) = D.bool false, D.bool (decide (4000 < n)) = D.bool false,
      FnOK Tryd.prog 8 [.slice es ext] (.str j), FnOK Tryd.prog 10 [.slice es ext] (.own 3 44 es2), FnOK Tryd.prog 9 [.slice es2 []] (.str j), decide (j = j) = true, FnOK Tryd.prog 7 [] (D.bool true), D.bool (decide (j = j)) = D.bool true], .bool true) := by kernel_rfl
theorem fin3d (es ext : List (List D)) (n : Int) (j : List UInt8) : finS Tryd.prog 36 sc3 rs3 [.slice es ext] [.s (.exit 0) (ex3 es ext n (es.length : Int)), .d (.bool false), .d (.bool false), .d (.bool false), .d (.bool false), .d (.str j), .d (.slice [] []), .d (.str j), .d (.bool true), .d (.bool true), .d (.bool true)] =
    some ([lp3 es ext n, decide (300 < (es.length : Int)) = false, decide (300 < (es.length : Int)) = false, D.bool (decide (300 < (es.length : Int))) = D.bool false, D.bool (decide (4000 < n)) = D.bool false,
      FnOK Tryd.prog 8 [.slice es ext] (.str j), FnOK Tryd.prog 10 [.slice es ext] (.slice [] []), FnOK Tryd.prog 9 [.slice [] []] (.str j), decide (j = j) = true, FnOK Tryd.prog 7 [] (D.bool true), D.bool (decide (j = j)) = D.bool true], .bool true) := by kernel_rfl

theorem sum3_eq : ∀ (ts : List Tk) (n : Int), 0 ≤ n → n + (Lib.lens (tx ts) : Int) ≤ 4611686018427387904 → ts.foldl (fun n t => IntKind.i64.wrap (n + (t.2.1.length : Int))) n = n + (Lib.lens (tx ts) : Int)
  | [], n, _, _ => by simp [tx, Lib.lens]
  | t :: ts, n, h0, h1 => by
    have hl : Lib.lens (tx (t :: ts)) = t.2.1.length + Lib.lens (tx ts) := by simp [tx, Lib.lens]
    rw [hl] at h1 ⊢
    rw [List.foldl_cons, wr (by omega) (by omega), sum3_eq ts _ (by omega) (by omega)]
    omega

theorem lens_le : ∀ (ts : List Tk) (b : Nat), (∀ t ∈ ts, t.2.1.length ≤ b) → Lib.lens (tx ts) ≤ ts.length * b
  | [], b, _ => by simp [tx, Lib.lens]
  | t :: ts, b, h => by
    have hl : Lib.lens (tx (t :: ts)) = t.2.1.length + Lib.lens (tx ts) := by simp [tx, Lib.lens]
    have h1 := h t (by simp)
    have h2 := lens_le ts b fun x hx => h x (by simp [hx])
    rw [hl, List.length_cons, Nat.succ_mul]
    omega

theorem jn_le (ts : List (List UInt8)) : (jn ts).length ≤ ts.length + Lib.lens ts := by
  unfold jn
  cases ts with
  | nil => simp [Lib.join_nil]
  | cons x r =>
    rw [Lib.join_length]
    simp

/-- LexJoins RETURNS true. -/
theorem law_ok (hd : DrawSound Tryd.prog) (hJ : JoinOK) (hA : FnOK Tryd.prog 7 [] (.bool true)) (ts : List Tk) (ext : List (List D)) (hn : ts.length ≤ 1000000000000000) (hS : ∀ t ∈ ts, t.2.1.length ≤ 281474976710656) :
    FnOK Tryd.prog 3 [.slice (ts.map tc) ext] (.bool true) := by
  have hl := loop3 ext ts hn
  by_cases h1 : 300 < ts.length
  · have h1' : decide (300 < ((ts.map tc).length : Int)) = true := by simp; omega
    exact FnOK.finS hd ⟨fc3, pf3⟩ _ (fin3a (ts.map tc) ext (sum3 ts)) ⟨hl, h1', h1', congrArg D.bool h1', rfl, hA, trivial⟩
  · have h1' : decide (300 < ((ts.map tc).length : Int)) = false := by simp; omega
    by_cases h2 : 4000 < sum3 ts
    · exact FnOK.finS hd ⟨fc3, pf3⟩ _ (fin3b (ts.map tc) ext (sum3 ts)) ⟨hl, h1', h1', congrArg D.bool h1', congrArg D.bool (by simpa using h2), hA, trivial⟩
    · have h2' : decide (4000 < sum3 ts) = false := by simpa using h2
      have h3 := lens_le ts 281474976710656 hS
      have h4 : sum3 ts = (Lib.lens (tx ts) : Int) := by
        have := sum3_eq ts 0 (by omega) (by omega)
        unfold sum3
        omega
      have h5 := jn_le (tx ts)
      have h6 : (tx ts).length = ts.length := by simp [tx]
      have hB : (jn (tx ts)).length ≤ 1000000 := by omega
      have c8 := lex_join hd hJ ts ext (by omega) hB
      have c10 := theirs_ok hd ts ext (by omega)
      have hT : Txt (ts.map tw) (tx ts) := ⟨by simp [tx], fun i t h => by
        simp only [tx, List.getElem?_map, Option.map_eq_some_iff] at h
        obtain ⟨a, ha, rfl⟩ := h
        exact ⟨_, _, by rw [List.getElem?_map, ha]; rfl⟩⟩
      have c9 := ref_join hd (ts.map tw) [] (tx ts) hT (by omega) hB
      unfold thR at c10
      cases hq : ts.map tw with
      | nil =>
        rw [hq] at c10 c9
        exact FnOK.finS hd ⟨fc3, pf3⟩ _ (fin3d (ts.map tc) ext (sum3 ts) (jn (tx ts))) ⟨hl, h1', h1', congrArg D.bool h1', congrArg D.bool h2', c8, c10, c9, by simp, hA, congrArg D.bool (by simp), trivial⟩
      | cons b r =>
        rw [hq] at c10 c9
        exact FnOK.finS hd ⟨fc3, pf3⟩ _ (fin3c (ts.map tc) ext (b :: r) (sum3 ts) (jn (tx ts))) ⟨hl, h1', h1', congrArg D.bool h1', congrArg D.bool h2', c8, c10, c9, by simp, hA, congrArg D.bool (by simp), trivial⟩

end Go.Proofs.YtdkbjkccpnhjgaaDoor
