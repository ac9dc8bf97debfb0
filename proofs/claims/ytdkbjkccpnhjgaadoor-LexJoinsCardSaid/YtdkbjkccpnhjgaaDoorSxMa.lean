/- Own work: a layer over the kit: plain data, a walk over it, its soundness. -/
import Derived.Test.YtdkbjkccpnhjgaaDoorSxM
set_option linter.unusedSectionVars false
set_option linter.unusedVariables false
set_option linter.unusedSimpArgs false
set_option linter.deprecated false
namespace Go.Sx
open Go.RowKit
variable [Globs] [Codes]

/-- A fence that fences nothing in. -/
structure Fence.Open (F : Fence) : Prop where
  fn : ∀ f, F.fn f
  depth : F.depth = none
  calls : ∀ {P f args w R}, Calls P f args w R → ∀ n, CallsIn F n P f args w R

theorem open_wide : Fence.Open Fence.wide := ⟨fun _ => trivial, rfl, fun h _ => callsIn_wide.2 h⟩
theorem Fence.Open.inRound {F : Fence} (hF : Fence.Open F) (l : Nat) : Fence.Open (F.inRound l) := ⟨hF.fn, hF.depth, fun h n => hF.calls h n⟩

theorem Fence.Open.room {F : Fence} (hF : Fence.Open F) (k : Nat) : F.room k := by
  unfold Fence.room
  rw [hF.depth]
  intro d h
  cases h

theorem Fence.Open.lessCall {F : Fence} (hF : Fence.Open F) {n m : Nat} {P : Program} {f : FuncId} {args : Array Value} {w : World} {R : Ending → World → Prop} (h : CallsIn F n P f args w R) : CallsIn F m P f args w R :=
  ⟨h.1, fun cs _ => h.2 cs (hF.room _)⟩
theorem Fence.Open.lessRound {F : Fence} (hF : Fence.Open F) {n m l : Nat} {P : Program} {f : FuncId} {tmps : Array Value} {a b : Code} {w : World} {R : Ending → World → Prop} (h : RoundIn F n P l f tmps a b w R) : RoundIn F m P l f tmps a b w R :=
  ⟨h.1, fun c cs _ => h.2 c cs (hF.room _)⟩

/-- A call of a value. -/
def callv (v : Value) (vs : Array Value) : Sem Next := do
  let d ← Deferred.ofValue v vs
  invoke d.target d.args

def DynOut (F : Fence) (n : Nat) (P : Program) (R : Ending → World → Prop) : Result Next → Prop
  | .ok (.enter f a) w => CallsIn F n P f a w R
  | .ok (.round l f t a b) w => RoundIn F n P l f t a b w R
  | _ => False

mutual
def D.top : D → Nat
  | .ptr j _ => j + 1
  | .vec j => j + 1
  | .vptr j _ _ => j + 1
  | .map j => j + 1
  | .yld j => j + 1
  | .agg cs => D.topL cs
  | .tuple cs => D.topL cs
  | .func _ f c => max (D.topL f) (D.topL c)
  | _ => 0
def D.topL : List D → Nat
  | [] => 0
  | d :: r => max (D.top d) (D.topL r)
end

mutual
theorem D.top_men (i : Nat) : ∀ d : D, D.top d ≤ i → D.men i d = false
  | .ptr j _, h => by simp only [D.top] at h; simp only [D.men, beq_eq_false_iff_ne]; omega
  | .vec j, h => by simp only [D.top] at h; simp only [D.men, beq_eq_false_iff_ne]; omega
  | .vptr j _ _, h => by simp only [D.top] at h; simp only [D.men, beq_eq_false_iff_ne]; omega
  | .map j, h => by simp only [D.top] at h; simp only [D.men, beq_eq_false_iff_ne]; omega
  | .yld j, h => by simp only [D.top] at h; simp only [D.men, beq_eq_false_iff_ne]; omega
  | .agg cs, h => by simp only [D.top] at h; simp only [D.men]; exact D.topL_men i cs h
  | .tuple cs, h => by simp only [D.top] at h; simp only [D.men]; exact D.topL_men i cs h
  | .func _ f c, h => by
    simp only [D.top] at h
    simp only [D.men, Bool.or_eq_false_iff]
    exact ⟨D.topL_men i f (by omega), D.topL_men i c (by omega)⟩
  | .undef, _ => rfl
  | .bool _, _ => rfl
  | .int _ _, _ => rfl
  | .str _, _ => rfl
  | .slice _ _, _ => rfl
  | .nilp, _ => rfl
  | .nilf, _ => rfl
  | .fptr _, _ => rfl
  | .raw _, _ => rfl
  | .nils, _ => rfl
  | .own _ _ _, _ => rfl
  | .ifc, _ => rfl
theorem D.topL_men (i : Nat) : ∀ l : List D, D.topL l ≤ i → D.menL i l = false
  | [], _ => rfl
  | d :: r, h => by
    simp only [D.topL] at h
    simp only [D.menL, Bool.or_eq_false_iff]
    exact ⟨D.top_men i d (by omega), D.topL_men i r (by omega)⟩
end

def Env.top : Env → Nat
  | [] => 0
  | (_, d) :: r => max (D.top d) (Env.top r)

def Obs.top : Obs → Nat
  | [] => 0
  | (i, o) :: r => max (max (i + 1) (D.topL o.parts)) (Obs.top r)

theorem Env.top_men {i : Nat} : ∀ {tm : Env}, Env.top tm ≤ i → ∀ {t d}, lk tm t = some d → D.men i d = false
  | [], _, t, d, hl => by simp [lk] at hl
  | (j, a) :: r, h, t, d, hl => by
    simp only [Env.top] at h
    simp only [lk] at hl
    split at hl
    · cases hl; exact D.top_men i a (by omega)
    · exact Env.top_men (tm := r) (by omega) hl

theorem Obs.top_men {i : Nat} : ∀ {ob : Obs}, Obs.top ob ≤ i → ∀ {t o}, lk ob t = some o → t < i ∧ Ob.men i o = false
  | [], _, t, d, hl => by simp [lk] at hl
  | (j, a) :: r, h, t, d, hl => by
    simp only [Obs.top] at h
    simp only [lk] at hl
    split at hl
    · rename_i e; cases hl; exact ⟨by omega, D.topL_men i _ (by omega)⟩
    · exact Obs.top_men (ob := r) (by omega) hl

/-- What is known of the handles that a value names suffices. -/
theorem RV.congr {φ : Mem} {h h' : Nat → Value} {v : Value} {d : D} (r : RV φ h v d) : (∀ i, D.men i d = true → h' i = h i) → RV φ h' v d := by
  have hget : ∀ {cs : List D} {j : Nat} {d : D} {i : Nat}, cs[j]? = some d → D.men i d = true → D.menL i cs = true := fun {cs j d i} hd hm => by
    cases hq : D.menL i cs with
    | true => rfl
    | false => rw [menL_get hq j d hd] at hm; cases hm
  induction r with
  | undef v => exact fun _ => .undef v
  | pure hr => exact fun _ => .pure hr
  | agg vs cs hs _ ih => exact fun hm => .agg vs cs hs fun j d hd => ih j d hd fun i hi => hm i (by simpa only [D.men] using hget hd hi)
  | tuple vs cs hs _ ih => exact fun hm => .tuple vs cs hs fun j d hd => ih j d hd fun i hi => hm i (by simpa only [D.men] using hget hd hi)
  | ptr id off b hh => exact fun hm => .ptr id off b (by rw [hm id (by simp [D.men])]; exact hh)
  | fptr b off cs vals hm hr => exact fun _ => .fptr b off cs vals hm hr
  | vec id hl => intro hm; have := hm id (by simp [D.men]); rw [← this] at hl ⊢; exact .vec id hl
  | vptr id a j b sz len cap hsz hh => exact fun hm => .vptr id a j b sz len cap hsz (by rw [hm id (by simp [D.men])]; exact hh)
  | map id hl => intro hm; have := hm id (by simp [D.men]); rw [← this] at hl ⊢; exact .map id hl
  | yld id b hh => exact fun hm => .yld id b (by rw [hm id (by simp [D.men])]; exact hh)
  | func f vf vc df dc hf hc _ _ ih1 ih2 =>
    exact fun hm => .func f vf vc df dc hf hc (fun j d hd => ih1 j d hd fun i hi => hm i (by simp only [D.men, Bool.or_eq_true]; exact .inl (hget hd hi)))
      (fun j d hd => ih2 j d hd fun i hi => hm i (by simp only [D.men, Bool.or_eq_true]; exact .inr (hget hd hi)))

theorem RV.under {φ : Mem} {h h' : Nat → Value} {v : Value} {d : D} {n : Nat} (r : RV φ h v d) (hn : D.top d ≤ n) (he : ∀ i, i < n → h' i = h i) : RV φ h' v d :=
  r.congr fun i hi => he i (Nat.lt_of_not_le fun hle => by rw [D.top_men i d (by omega)] at hi; cases hi)

theorem topL_get {n : Nat} : ∀ {cs : List D}, D.topL cs ≤ n → ∀ {d : D}, d ∈ cs → D.top d ≤ n
  | [], _, d, hd => by cases hd
  | c :: cs, h, d, hd => by
    simp only [D.topL] at h
    rcases List.mem_cons.1 hd with rfl | hd
    · omega
    · exact topL_get (cs := cs) (by omega) hd

theorem Env.top_get {n : Nat} : ∀ {tm : Env}, Env.top tm ≤ n → ∀ {t d}, lk tm t = some d → D.top d ≤ n
  | [], _, t, d, hl => by simp [lk] at hl
  | (j, a) :: r, h, t, d, hl => by
    simp only [Env.top] at h
    simp only [lk] at hl
    split at hl
    · cases hl; omega
    · exact Env.top_get (tm := r) (by omega) hl

theorem Obs.top_get {n : Nat} : ∀ {ob : Obs}, Obs.top ob ≤ n → ∀ {t o}, lk ob t = some o → t < n ∧ D.topL o.parts ≤ n
  | [], _, t, d, hl => by simp [lk] at hl
  | (j, a) :: r, h, t, d, hl => by
    simp only [Obs.top] at h
    simp only [lk] at hl
    split at hl
    · rename_i e; cases hl; exact ⟨by omega, by omega⟩
    · exact Obs.top_get (ob := r) (by omega) hl

theorem lk_append {α : Type} (a b : List (Nat × α)) (i : Nat) : lk (a ++ b) i = (lk a i).or (lk b i) := by
  induction a with
  | nil => simp [lk]
  | cons p a ih =>
    obtain ⟨j, x⟩ := p
    simp only [List.cons_append, lk]
    split
    · simp
    · exact ih

/-- The blocks of some objects. -/
def ZOf (ob : Obs) (h : Nat → Value) (b : Nat) : Prop := ∃ i, (lk ob i).isSome ∧ blk (h i) = some b

/-- These objects lie in the world. -/
structure Loc (own : Nat → Prop) (ob : Obs) (φ : Mem) (h : Nat → Value) (w : World) : Prop where
  one : HOne h
  glob : GlobOK φ
  mem : Sub φ w
  obj : ∀ i o, lk ob i = some o → ObR own φ h w (h i) o
  sep : ∀ i j b, (lk ob i).isSome → (lk ob j).isSome → blk (h i) = some b → blk (h j) = some b → i = j

/-- What a call leaves. -/
structure After (ob : Obs) (φ : Mem) (h : Nat → Value) (w : World) (ob' : Obs) (φ' : Mem) (h' : Nat → Value) (w' : World) : Prop where
  loc : Loc (fun b => w.heap.size ≤ b ∨ ZOf ob h b) ob' φ' h' w'
  ext : ∀ b o v, φ b o = some v → φ' b o = some v
  new : ∀ b o v, φ' b o = some v → φ b o = none → w.heap.size ≤ b ∨ ZOf ob h b
  frame : ∀ b, b < w.heap.size → ¬ ZOf ob h b → w'.heap[b]? = w.heap[b]?
  hfix : ∀ i, (lk ob i).isSome → h' i = h i
  os : w'.os = w.os
  tape : w'.tape = w.tape
  output : w'.output = w.output
  grow : w.heap.size ≤ w'.heap.size

def Post (ob : Obs) (φ : Mem) (h : Nat → Value) (w : World) (R : D → Obs → Prop) (e : Ending) (w' : World) : Prop :=
  ∃ v r ob' φ' h', e = .returned v ∧ R r ob' ∧ RV φ' h' v r ∧ After ob φ h w ob' φ' h' w'

/-- A CALL OF A VALUE, with the objects 'ob' at hand; the names are its own. -/
def CallL (P : Program) (d : D) (args : List D) (ob : Obs) (R : D → Obs → Prop) : Prop :=
  ∀ (F : Fence) (_ : Fence.Open F) (n : Nat) (φ : Mem) (h : Nat → Value) (w : World) (v : Value) (vs : Array Value),
    Loc (fun _ => True) ob φ h w → RV φ h v d → RVL φ h vs.toList args → DynOut F n P (Post ob φ h w R) ((callv v vs).run P w)

theorem DynOut.mono {F : Fence} {n : Nat} {P : Program} {R R' : Ending → World → Prop} {r : Result Next} (hr : ∀ e w, R e w → R' e w) (h : DynOut F n P R r) : DynOut F n P R' r := by
  unfold DynOut at h ⊢
  split at h
  · exact CallsIn.mono h hr
  · exact RoundIn.mono h hr
  · exact h.elim

theorem CallL.mono {P : Program} {d : D} {args : List D} {ob : Obs} {R R' : D → Obs → Prop} (h : CallL P d args ob R) (hr : ∀ r ob', R r ob' → R' r ob') : CallL P d args ob R' :=
  fun F hF n φ h' w v vs hp hv hvs => (h F hF n φ h' w v vs hp hv hvs).mono fun _ _ ⟨v, r, ob', φ', h'', he, hR, h1, h2⟩ => ⟨v, r, ob', φ', h'', he, hr r ob' hR, h1, h2⟩

/- NAMES: at a call the objects at hand get names of their own. -/

def idx (i : Nat) : List Nat → Option Nat
  | [] => none
  | j :: r => if i = j then some 0 else (idx i r).map (· + 1)

theorem idx_get {i : Nat} : ∀ {nm : List Nat} {k : Nat}, idx i nm = some k → nm[k]? = some i
  | [], k, h => by simp [idx] at h
  | j :: r, k, h => by
    simp only [idx] at h
    split at h
    · rename_i e; cases h; simp [e]
    · cases hq : idx i r with
      | none => rw [hq] at h; cases h
      | some q => rw [hq] at h; simp at h; subst h; simpa using idx_get hq

theorem idx_none {i : Nat} : ∀ {nm : List Nat}, idx i nm = none → i ∉ nm
  | [], _ => by simp
  | j :: r, h => by
    simp only [idx] at h
    split at h
    · cases h
    · rename_i hne
      have : idx i r = none := by
        cases hq : idx i r with
        | none => rfl
        | some q => rw [hq] at h; cases h
      simp only [List.mem_cons, not_or]
      exact ⟨hne, idx_none this⟩

theorem get_idx {nm : List Nat} (hnd : nm.Nodup) {k i : Nat} (h : nm[k]? = some i) : idx i nm = some k := by
  cases hq : idx i nm with
  | none => exact absurd (List.mem_of_getElem? h) (idx_none hq)
  | some q =>
    have h2 := idx_get hq
    have e := List.getElem?_inj (i := q) (j := k) (List.getElem?_eq_some_iff.1 h2).1 hnd |>.1 (h2.trans h.symm)
    rw [e]

/- Names are turned by 'f'; what has no new name is no longer known. -/
mutual
def D.ren (f : Nat → Option Nat) : D → D
  | .ptr j o => match f j with | some k => .ptr k o | none => .undef
  | .vec j => match f j with | some k => .vec k | none => .undef
  | .vptr j a b => match f j with | some k => .vptr k a b | none => .undef
  | .map j => match f j with | some k => .map k | none => .undef
  | .yld j => match f j with | some k => .yld k | none => .undef
  | .agg cs => .agg (D.renL f cs)
  | .tuple cs => .tuple (D.renL f cs)
  | .func g a c => .func g (D.renL f a) (D.renL f c)
  | d => d
def D.renL (f : Nat → Option Nat) : List D → List D
  | [] => []
  | d :: r => D.ren f d :: D.renL f r
end

theorem renL_length (f : Nat → Option Nat) : ∀ cs : List D, (D.renL f cs).length = cs.length
  | [] => rfl
  | d :: r => by simp [D.renL, renL_length f r]

theorem renL_get (f : Nat → Option Nat) : ∀ (cs : List D) (j : Nat) (d : D), (D.renL f cs)[j]? = some d → ∃ d0, cs[j]? = some d0 ∧ d = D.ren f d0
  | [], j, d, h => by simp [D.renL] at h
  | c :: r, 0, d, h => by simp [D.renL] at h; exact ⟨c, rfl, h.symm⟩
  | c :: r, j + 1, d, h => by simpa using renL_get f r j d (by simpa [D.renL] using h)

theorem RV.ren {φ : Mem} {h h' : Nat → Value} {f : Nat → Option Nat} {v : Value} {d : D} (r : RV φ h v d) : (∀ i k, f i = some k → D.men i d = true → h' k = h i) → RV φ h' v (D.ren f d) := by
  have hget : ∀ {cs : List D} {j : Nat} {d : D} {i : Nat}, cs[j]? = some d → D.men i d = true → D.menL i cs = true := fun {cs j d i} hd hm => by
    cases hq : D.menL i cs with
    | true => rfl
    | false => rw [menL_get hq j d hd] at hm; cases hm
  induction r with
  | undef v => exact fun _ => .undef v
  | pure hr => exact fun _ => by cases hr <;> exact .pure (by constructor <;> assumption)
  | agg vs cs hs _ ih =>
    intro hm
    refine .agg vs _ (by rw [renL_length]; exact hs) fun j d hd => ?_
    obtain ⟨d0, h0, rfl⟩ := renL_get f cs j d hd
    exact ih j d0 h0 fun i k hk hi => hm i k hk (by simpa only [D.men] using hget h0 hi)
  | tuple vs cs hs _ ih =>
    intro hm
    refine .tuple vs _ (by rw [renL_length]; exact hs) fun j d hd => ?_
    obtain ⟨d0, h0, rfl⟩ := renL_get f cs j d hd
    exact ih j d0 h0 fun i k hk hi => hm i k hk (by simpa only [D.men] using hget h0 hi)
  | ptr id off b hh =>
    intro hm
    simp only [D.ren]
    split
    · rename_i k hk; exact .ptr k off b (by rw [hm id k hk (by simp [D.men])]; exact hh)
    · exact .undef _
  | fptr b off cs vals hm hr => exact fun _ => .fptr b off cs vals hm hr
  | vec id hl =>
    intro hm
    simp only [D.ren]
    split
    · rename_i k hk
      have := hm id k hk (by simp [D.men])
      rw [← this] at hl ⊢; exact .vec k hl
    · exact .undef _
  | vptr id a j b sz len cap hsz hh =>
    intro hm
    simp only [D.ren]
    split
    · rename_i k hk; exact .vptr k a j b sz len cap hsz (by rw [hm id k hk (by simp [D.men])]; exact hh)
    · exact .undef _
  | map id hl =>
    intro hm
    simp only [D.ren]
    split
    · rename_i k hk
      have := hm id k hk (by simp [D.men])
      rw [← this] at hl ⊢; exact .map k hl
    · exact .undef _
  | yld id b hh =>
    intro hm
    simp only [D.ren]
    split
    · rename_i k hk; exact .yld k b (by rw [hm id k hk (by simp [D.men])]; exact hh)
    · exact .undef _
  | func g vf vc df dc hf hc _ _ ih1 ih2 =>
    intro hm
    refine .func g vf vc _ _ (by rw [renL_length]; exact hf) (by rw [renL_length]; exact hc) (fun j d hd => ?_) fun j d hd => ?_
    · obtain ⟨d0, h0, rfl⟩ := renL_get f df j d hd
      exact ih1 j d0 h0 fun i k hk hi => hm i k hk (by simp only [D.men, Bool.or_eq_true]; exact .inl (hget h0 hi))
    · obtain ⟨d0, h0, rfl⟩ := renL_get f dc j d hd
      exact ih2 j d0 h0 fun i k hk hi => hm i k hk (by simp only [D.men, Bool.or_eq_true]; exact .inr (hget h0 hi))

def Ob.ren (f : Nat → Option Nat) : Ob → Ob
  | .cells cs => .cells (D.renL f cs)
  | .gen g cs => .gen g (D.renL f cs)
  | o => o

theorem menL_mem {i : Nat} {cs : List D} {j : Nat} {d : D} (hd : cs[j]? = some d) (hm : D.men i d = true) : D.menL i cs = true := by
  cases hq : D.menL i cs with
  | true => rfl
  | false => rw [menL_get hq j d hd] at hm; cases hm

theorem ObR.ren {own own' : Nat → Prop} {φ : Mem} {h h' : Nat → Value} {w : World} {hv : Value} {o : Ob} {f : Nat → Option Nat} (hob : ObR own φ h w hv o) (hown : ∀ b, blk hv = some b → own' b) (hm : ∀ i k, f i = some k → Ob.men i o = true → h' k = h i) : ObR own' φ h' w hv (o.ren f) := by
  cases o with
  | cells cs =>
    obtain ⟨b, vals, e, rfl, ho, hh, hs, hc, hn⟩ := hob
    refine ⟨b, vals, e, rfl, hown b rfl, hh, by rw [renL_length]; exact hs, fun j d hd => ?_, hn⟩
    obtain ⟨d0, h0, rfl⟩ := renL_get f cs j d hd
    exact (hc j d0 h0).ren fun i k hk hi => hm i k hk (menL_mem h0 hi)
  | gen g cs =>
    obtain ⟨b, vals, o, hbk, ho, hh, hg, hs, hc, hn⟩ := hob
    refine ⟨b, vals, o, hbk, hown b hbk, hh, hg, by rw [renL_length]; exact hs, fun j d hd => ?_, hn⟩
    obtain ⟨d0, h0, rfl⟩ := renL_get f cs j d hd
    exact (hc j d0 h0).ren fun i k hk hi => hm i k hk (menL_mem h0 hi)
  | arr fz sz e es =>
    obtain ⟨q1, q2, xs, q3, q4, q5⟩ := hob
    exact ⟨q1, q2, xs, q3, q4, fun b hb => ⟨hown b hb, (q5 b hb).2⟩⟩

/-- The objects that are handed over, under their new names. -/
def handO (ob : Obs) (g : Nat → Option Nat) : Nat → List Nat → Obs
  | _, [] => []
  | k, i :: r => match lk ob i with
    | some o => (k, o.ren g) :: handO ob g (k + 1) r
    | none => handO ob g (k + 1) r

theorem handO_lk {ob : Obs} {g : Nat → Option Nat} : ∀ (r : List Nat) (k : Nat) (j : Nat) (o : Ob), lk (handO ob g k r) j = some o → ∃ i o0, k ≤ j ∧ r[j - k]? = some i ∧ lk ob i = some o0 ∧ o = o0.ren g
  | [], k, j, o, h => by simp [handO, lk] at h
  | i :: r, k, j, o, h => by
    have next : lk (handO ob g (k + 1) r) j = some o → ∃ i' o0, k ≤ j ∧ (i :: r)[j - k]? = some i' ∧ lk ob i' = some o0 ∧ o = o0.ren g := fun h => by
      obtain ⟨i', o0, h1, h2, h3, h4⟩ := handO_lk r (k + 1) j o h
      refine ⟨i', o0, by omega, ?_, h3, h4⟩
      rw [show j - k = (j - (k + 1)) + 1 by omega]
      simpa using h2
    simp only [handO] at h
    split at h
    · rename_i o0 ho0
      simp only [lk] at h
      split at h
      · rename_i e; cases h; subst e; exact ⟨i, o0, Nat.le_refl _, by simp, ho0, rfl⟩
      · exact next h
    · exact next h

theorem handO_some {ob : Obs} {g : Nat → Option Nat} : ∀ (r : List Nat) (k : Nat) (j i : Nat), k ≤ j → r[j - k]? = some i → (lk ob i).isSome → (lk (handO ob g k r) j).isSome
  | [], k, j, i, _, h, _ => by simp at h
  | x :: r, k, j, i, hk, h, hi => by
    have next : k < j → (lk (handO ob g (k + 1) r) j).isSome := fun hlt => handO_some r (k + 1) j i (by omega) (by
      rw [show j - k = (j - (k + 1)) + 1 by omega] at h
      simpa using h) hi
    simp only [handO]
    split
    · simp only [lk]
      split
      · rfl
      · exact next (by omega)
    · rename_i hn
      refine next ?_
      rcases Nat.lt_or_ge k j with h' | h'
      · exact h'
      · exfalso
        have : j = k := by omega
        subst this
        simp at h
        subst h
        rw [hn] at hi; cases hi

/-- Back to the names of the caller. -/
def bkN (base : Nat) (nm : List Nat) (j : Nat) : Option Nat := match nm[j]? with
  | some i => some i
  | none => some (base + j)

def dropO (nm : List Nat) : Obs → Obs
  | [] => []
  | (j, o) :: r => if nm.contains j then dropO nm r else (j, o) :: dropO nm r

theorem dropO_lk {nm : List Nat} : ∀ (ob : Obs) (i : Nat), lk (dropO nm ob) i = if i ∈ nm then none else lk ob i
  | [], i => by simp [dropO, lk]
  | (j, o) :: r, i => by
    simp only [dropO, List.contains_iff_mem]
    split
    · rename_i hj
      rw [dropO_lk r i]
      split
      · rfl
      · rename_i hi
        simp only [lk]
        rw [if_neg (fun e => hi (by rw [e]; exact hj))]
    · rename_i hj
      simp only [lk]
      by_cases e : i = j
      · subst e; simp [hj]
      · rw [if_neg e, if_neg e, dropO_lk r i]

def renO (f : Nat → Nat) (g : Nat → Option Nat) : Obs → Obs
  | [] => []
  | (j, o) :: r => (f j, o.ren g) :: renO f g r

theorem renO_lk {f : Nat → Nat} {g : Nat → Option Nat} : ∀ {ob : Obs} {i : Nat} {o : Ob}, lk (renO f g ob) i = some o → (∀ j k, f j = f k → j = k) → ∃ j o0, f j = i ∧ lk ob j = some o0 ∧ o = o0.ren g
  | [], i, o, h, _ => by simp [renO, lk] at h
  | (j, x) :: r, i, o, h, hf => by
    simp only [renO, lk] at h
    split at h
    · rename_i e; cases h; exact ⟨j, x, e.symm, by simp [lk], rfl⟩
    · rename_i e
      obtain ⟨j', o0, h1, h2, h3⟩ := renO_lk (ob := r) h hf
      refine ⟨j', o0, h1, ?_, h3⟩
      simp only [lk]
      rw [if_neg (fun e' => e (by rw [← h1, e']))]
      exact h2

/-- The state behind a call. -/
def St.back (s : St) (base : Nat) (nm : List Nat) (ob' : Obs) : St :=
  ⟨s.tm, dropO nm s.ob ++ renO (fun j => match nm[j]? with | some i => i | none => base + j) (bkN base nm) ob'⟩

def St.top (s : St) : Nat := max (Env.top s.tm) (Obs.top s.ob)

/- The names that a state leads to. -/
mutual
def D.coll : D → List Nat → List Nat
  | .ptr j _, acc => if acc.contains j then acc else acc ++ [j]
  | .vec j, acc => if acc.contains j then acc else acc ++ [j]
  | .vptr j _ _, acc => if acc.contains j then acc else acc ++ [j]
  | .map j, acc => if acc.contains j then acc else acc ++ [j]
  | .yld j, acc => if acc.contains j then acc else acc ++ [j]
  | .agg cs, acc => D.collL cs acc
  | .tuple cs, acc => D.collL cs acc
  | .func _ a c, acc => D.collL c (D.collL a acc)
  | _, acc => acc
def D.collL : List D → List Nat → List Nat
  | [], acc => acc
  | d :: r, acc => D.collL r (D.coll d acc)
end

def reachGo (ob : Obs) : Nat → Nat → List Nat → List Nat
  | 0, _, acc => acc
  | f + 1, k, acc => match acc[k]? with
    | none => acc
    | some i => match lk ob i with
      | some o => reachGo ob f (k + 1) (D.collL o.parts acc)
      | none => reachGo ob f (k + 1) acc

def reach (ob : Obs) (acc : List Nat) : List Nat := reachGo ob 1000 0 acc

def oldO (bs : Nat) (g : Nat → Option Nat) : Obs → Obs
  | [] => []
  | (j, o) :: r => if j < bs then (j, o.ren g) :: oldO bs g r else oldO bs g r

theorem oldO_lk {bs : Nat} {g : Nat → Option Nat} : ∀ (ob : Obs) (i : Nat) (o : Ob), lk (oldO bs g ob) i = some o → i < bs ∧ ∃ o0, lk ob i = some o0 ∧ o = o0.ren g
  | [], i, o, h => by simp [oldO, lk] at h
  | (j, x) :: r, i, o, h => by
    simp only [oldO] at h
    split at h
    · rename_i hj
      simp only [lk] at h
      split at h
      · rename_i e; cases h; subst e; exact ⟨hj, x, by simp [lk], rfl⟩
      · rename_i e
        obtain ⟨h1, o0, h2, h3⟩ := oldO_lk r i o h
        exact ⟨h1, o0, by simp only [lk]; rw [if_neg e]; exact h2, h3⟩
    · rename_i hj
      obtain ⟨h1, o0, h2, h3⟩ := oldO_lk r i o h
      exact ⟨h1, o0, by simp only [lk]; rw [if_neg (by omega)]; exact h2, h3⟩

def renE (g : Nat → Option Nat) : Env → Env
  | [] => []
  | (t, d) :: r => (t, d.ren g) :: renE g r

theorem renE_lk {g : Nat → Option Nat} : ∀ {tm : Env} {t : Nat} {d : D}, lk (renE g tm) t = some d → ∃ d0, lk tm t = some d0 ∧ d = d0.ren g
  | [], t, d, h => by simp [renE, lk] at h
  | (j, x) :: r, t, d, h => by
    simp only [renE, lk] at h
    split at h
    · rename_i e; cases h; exact ⟨x, by simp [lk, e], rfl⟩
    · rename_i e
      obtain ⟨d0, h1, h2⟩ := renE_lk (tm := r) h
      exact ⟨d0, by simp only [lk]; rw [if_neg e]; exact h1, h2⟩

def Env.coll : Env → List Nat → List Nat
  | [], acc => acc
  | (_, d) :: r, acc => Env.coll r (d.coll acc)

def Obs.olds (bs : Nat) : Obs → List Nat
  | [] => []
  | (j, _) :: r => if j < bs then j :: Obs.olds bs r else Obs.olds bs r

/-- What is kept of a state: these temporaries, these objects, in this order. -/
def kept {α : Type} (l : List (Nat × α)) : List Nat → List (Nat × α)
  | [] => []
  | t :: ts => match lk l t with
    | some d => (t, d) :: kept l ts
    | none => kept l ts

theorem kept_lk {α : Type} {l : List (Nat × α)} {i : Nat} {d : α} : ∀ {ts : List Nat}, lk (kept l ts) i = some d → lk l i = some d
  | [], h => by simp [kept, lk] at h
  | t :: ts, h => by
    simp only [kept] at h
    split at h
    · rename_i x hx
      simp only [lk] at h
      split at h
      · rename_i e; cases h; rw [e]; exact hx
      · exact kept_lk h
    · exact kept_lk h

/-- The new names, in their order. -/
def newN (bs : Nat) (ob : Obs) (tm : Env) : List Nat := (reach ob (Env.coll tm (Obs.olds bs ob))).filter fun i => decide (bs ≤ i) && (lk ob i).isSome

def canG (bs : Nat) (nw : List Nat) (i : Nat) : Option Nat := if i < bs then some i else (idx i nw).map (bs + ·)

def newO (ob : Obs) (g : Nat → Option Nat) : Nat → List Nat → Obs
  | _, [] => []
  | k, i :: r => match lk ob i, g i with
    | some o, some q => if q = k then (k, o.ren g) :: newO ob g (k + 1) r else newO ob g (k + 1) r
    | _, _ => newO ob g (k + 1) r

theorem newO_lk {ob : Obs} {g : Nat → Option Nat} : ∀ (r : List Nat) (k : Nat) (j : Nat) (o : Ob), lk (newO ob g k r) j = some o → ∃ i o0, g i = some j ∧ lk ob i = some o0 ∧ o = o0.ren g
  | [], k, j, o, h => by simp [newO, lk] at h
  | i :: r, k, j, o, h => by
    simp only [newO] at h
    split at h
    · rename_i o0 q ho0 hq
      split at h
      · rename_i e
        simp only [lk] at h
        split at h
        · rename_i e2; cases h; exact ⟨i, o0, by rw [hq, e, e2], ho0, rfl⟩
        · exact newO_lk r (k + 1) j o h
      · exact newO_lk r (k + 1) j o h
    · exact newO_lk r (k + 1) j o h

def canS (bs : Nat) (nw : List Nat) (tm : Env) (ob : Obs) : St := ⟨renE (canG bs nw) tm, oldO bs (canG bs nw) ob ++ newO ob (canG bs nw) bs nw⟩

/-- These temporaries and what they lead to, under their first names. -/
def St.canon (s : St) (bs : Nat) (ts : List Nat) : St := canS bs (newN bs s.ob (kept s.tm ts)) (kept s.tm ts) s.ob

end Go.Sx
