/- Own work: a layer over the kit: plain data, a walk over it, its soundness. -/
import Derived.Test.YtdkbjkccpnhjgaaDoorSxC
set_option linter.unusedSectionVars false
set_option linter.unusedVariables false
set_option linter.unusedSimpArgs false
set_option linter.deprecated false
namespace Go.Sx
open Go.RowKit
variable [Globs] [Codes]

theorem RV.pur_rep {φ : Mem} {h : Nat → Value} {v : Value} {d : D} (hp : D.pur d = true) (r : RV φ h v d) : Rep φ v d := by
  cases r with
  | pure r => exact r
  | _ => simp [D.pur] at hp

def CR (φ : Mem) (h : Nat → Value) (cells : Array Value) (ds : List D) : Prop :=
  cells.size = ds.length ∧ ∀ j d, ds[j]? = some d → RV φ h (cells.getD j Go.undef) d

theorem CR.set {φ : Mem} {h : Nat → Value} {cells : Array Value} {ds : List D} (hc : CR φ h cells ds) (i : Nat) {v : Value} {d : D} (r : RV φ h v d) : CR φ h (cells.setIfInBounds i v) (ds.set i d) := by
  refine ⟨by simp [hc.1], fun j d' hj => ?_⟩
  rw [List.getElem?_set] at hj
  split at hj
  · rename_i e; subst e
    split at hj
    · rename_i hlt
      cases hj
      have : i < cells.size := by rw [hc.1]; exact hlt
      simpa [Array.getD, this] using r
    · cases hj
  · rename_i hne
    have := hc.2 j d' hj
    simpa [Array.getD_eq_getD_getElem?, Array.getElem?_setIfInBounds, hne] using this

theorem CR.foldl {φ : Mem} {h : Nat → Value} (off : Nat) : ∀ (vs : List Value) (k : Nat) (xs : List D) (cells : Array Value) (ds : List D), CR φ h cells ds → RVL φ h vs xs →
    CR φ h ((vs.zipIdx k).foldl (fun cs (x : Value × Nat) => cs.setIfInBounds (off + x.2) x.1) cells) (setAt ds (off + k) xs)
  | [], _, [], _, _, hc, _ => hc
  | v :: vs, k, x :: xs, cells, ds, hc, hr => by
    simp only [List.zipIdx_cons, List.foldl_cons, setAt]
    have := CR.foldl off vs (k + 1) xs _ _ (hc.set (off + k) hr.1) hr.2
    simpa [Nat.add_assoc] using this
  | [], _, _ :: _, _, _, _, hr => hr.elim
  | _ :: _, _, [], _, _, _, hr => hr.elim

theorem RVL_of_get {φ : Mem} {h : Nat → Value} : ∀ (vs : List Value) (cs : List D), vs.length = cs.length → (∀ j d, cs[j]? = some d → RV φ h (vs.getD j Go.undef) d) → RVL φ h vs cs
  | [], [], _, _ => trivial
  | v :: vs, c :: cs, hl, hc => ⟨by simpa using hc 0 c rfl, RVL_of_get vs cs (by simpa using hl) fun j d hd => by simpa using hc (j + 1) d (by simpa using hd)⟩
  | [], _ :: _, hl, _ => by simp at hl
  | _ :: _, [], hl, _ => by simp at hl

theorem RVL.length {φ : Mem} {h : Nat → Value} : ∀ {vs : List Value} {cs : List D}, RVL φ h vs cs → vs.length = cs.length
  | [], [], _ => rfl
  | _ :: _, _ :: _, hr => by simp [RVL.length hr.2]
  | [], _ :: _, hr => hr.elim
  | _ :: _, [], hr => hr.elim

theorem RVL.get {φ : Mem} {h : Nat → Value} : ∀ {vs : List Value} {cs : List D}, RVL φ h vs cs → ∀ j d, cs[j]? = some d → RV φ h (vs.getD j Go.undef) d
  | [], [], _, j, d, hd => by simp at hd
  | v :: vs, c :: cs, hr, j, d, hd => by
    cases j with
    | zero => simp at hd; subst hd; simpa using hr.1
    | succ j => simpa using RVL.get hr.2 j d (by simpa using hd)
  | [], _ :: _, hr, _, _, _ => hr.elim
  | _ :: _, [], hr, _, _, _ => hr.elim


theorem Rep.one {φ : Mem} {v : Value} {d : D} (r : Rep φ v d) : v.oneCell' = true := by
  cases r <;> first | rfl | assumption

theorem cells_one {v : Value} (h : v.oneCell' = true) : v.cells = #[v] := by
  cases v <;> simp_all [Value.oneCell', Value.cells]

theorem RV.one {φ : Mem} {h : Nat → Value} (hh : HOne h) {v : Value} {d : D} (r : RV φ h v d) (hd : D.one d = true) : v.oneCell' = true := by
  cases r with
  | undef => simp [D.one] at hd
  | pure r => exact r.one
  | agg => simp [D.one] at hd
  | tuple => simp [D.one] at hd
  | ptr => rfl
  | fptr => rfl
  | vec i _ => exact hh i
  | vptr => rfl
  | map i _ => exact hh i
  | yld => rfl
  | func => rfl

theorem RV.cells {φ : Mem} {h : Nat → Value} {v : Value} {d : D} (hh : HOne h) (r : RV φ h v d) (hd : D.okc d = true) : CR φ h v.cells d.cells := by
  by_cases ha : ∃ cs, d = .agg cs
  · obtain ⟨cs, rfl⟩ := ha
    obtain ⟨vs, rfl, hs, hc⟩ := r.agg_inv
    exact ⟨hs, hc⟩
  · have h1 : D.one d = true := by
      cases d <;> first | exact hd | exact absurd ⟨_, rfl⟩ ha
    rw [cells_one (r.one hh h1)]
    have : d.cells = [d] := by
      cases d <;> first | rfl | exact absurd ⟨_, rfl⟩ ha
    rw [this]
    refine ⟨rfl, fun j d' hj => ?_⟩
    cases j with
    | zero => simp at hj; subst hj; simpa using r
    | succ j => simp at hj

end Go.Sx
