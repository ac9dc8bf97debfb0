/- Own work: a layer over the kit: plain data, a walk over it, its soundness. -/
import Derived.WalkKit
import Derived.OpenShut
import Derived.SevenTiedAt
import Derived.Carry
import Derived.Lib.AtoiAll
import Derived.Lib.ItoaNum
import Derived.Lib.Join
import Derived.Test.YtdkbjkccpnhjgaaGreatDoorSx5
set_option linter.unusedSectionVars false
set_option linter.unusedVariables false
set_option linter.unusedSimpArgs false
set_option linter.deprecated false
/- From a law's walk to its contract, for any parameters that are read. -/
namespace Go.Sx
open Go.RowKit Go.ChangeShapes Go.WideShapes

theorem post_below {H : Type} {enc : TypeId × Value → H} {P : Program} {f : Func} {s : ChangeSpec} {apart fresh handsOn : Bool} {W W' : World} {args : Array Value} {v : Value} {ds gs : List (DataW H)} {before pa pv : List MemPlace}
    (hW : DataW.Whole enc P f.params.toList s.vars apart W args.toList ds gs before)
    (hres : ∀ (b : Nat) (sp : Nat → Bool) (hd : Bool), DataW.TrodAll enc P W' b sp hd f.resultTypes.toList (v.resultList f.resultTypes.size) (s.fn H (ds ++ gs)).results [])
    (hargs : DataW.TrodAll enc P W' 0 (fun b => decide (b < W.heap.size)) true f.params.toList args.toList (s.fn H (ds ++ gs)).args pa)
    (hvars : DataW.TrodVars enc P W' (fun b => decide (b < W.heap.size)) s.vars (s.fn H (ds ++ gs)).vars pv)
    (hps : before = pa ++ pv) (hb : Below W.heap.size W W') : s.post enc P f apart fresh handsOn false W args v W' := by
  refine ⟨ds, gs, before, [], pa, pv, hW, hres _ _ _, hargs, hvars, World.keptBut_mono (fun p hp => ⟨hp, ?_⟩) (hb.frame (· ∈ before)), fun h => by cases h⟩
  rw [hps, List.mem_append] at hp
  exact Or.inr hp

variable {P : Program}
/-- What comes in, as data, by the types. -/
def FitA (P : Program) (B : Nat) : List TypeId → List D → Prop
  | [], [] => True
  | t :: ts, a :: as' => (∃ l cs, shOf P 6 t = some l ∧ Sh.fits B l cs ∧ (if aggB P t = some true then a = .agg cs else cs = [a])) ∧ FitA P B ts as'
  | _, _ => False

theorem okWide_one {w : World} {r : Reach} {base n : Nat} {t : TypeId} {v : Value} {l : List Sh} (hs : shOf P n t = some l) (h : Value.okWide P w r base t v) :
    (aggB P t = some true ∧ ∃ cs, v = .agg cs) ∨ (aggB P t = some false ∧ v.cells = #[v]) := by
  cases n with
  | zero => simp [shOf] at hs
  | succ n =>
    unfold shOf at hs
    unfold aggB
    unfold Value.okWide at h
    split at hs
    · rename_i hu
      rw [hu] at h ⊢
      simp only [Cell.okWide, hu] at h
      refine .inr ⟨rfl, ?_⟩
      cases v <;> simp_all [Cell.ok, Value.cells]
    · rename_i k hu
      rw [hu] at h ⊢
      simp only [Cell.okWide, hu] at h
      refine .inr ⟨rfl, ?_⟩
      cases v <;> simp_all [Cell.ok, Value.cells]
    · rename_i hu
      rw [hu] at h ⊢
      simp only [Cell.okWide, hu] at h
      refine .inr ⟨rfl, ?_⟩
      cases v <;> simp_all [Cell.ok, Value.cells]
    · rename_i e hu
      rw [hu] at h ⊢
      simp only [Cell.okWide, hu] at h
      refine .inr ⟨rfl, ?_⟩
      cases v <;> simp_all [Cell.ok, Value.cells]
    · rename_i fs hu
      rw [hu] at h ⊢
      simp only at h
      obtain ⟨cs, rfl, _⟩ := h
      exact .inl ⟨rfl, cs, rfl⟩
    · cases hs

variable {H : Type} {enc : TypeId × Value → H} {w : World}
variable [Globs] [Codes]
theorem read_args (B : Nat) {r : Reach} {base : Nat} : ∀ (ts : List TypeId) (vs : List Value) (ds : List (DataW H)) (ps : List MemPlace), DataW.TrodAll enc P w 0 (fun _ => true) true ts vs ds ps → wOK B (DataW.weightsEach P ts ds) →
    (∀ t ∈ ts, (shOf P 6 t).isSome = true) → (∀ (j : Nat) t v, ts[j]? = some t → vs[j]? = some v → Value.okWide P w r base t v) → ∃ as', RVL (memW w) noH vs as' ∧ FitA P B ts as'
  | [], vs, ds, ps, h, _, _, _ => by
    obtain ⟨rfl, rfl, rfl⟩ := trodAll_nil h
    exact ⟨[], trivial, trivial⟩
  | t :: ts, vs, ds, ps, h, hw, hs, hv => by
    obtain ⟨v, vs', d, ds', p, q, rfl, rfl, rfl, h0, hr⟩ := trodAll_cons h
    simp only [DataW.weightsEach] at hw
    obtain ⟨as', h1, h2⟩ := read_args B ts vs' ds' q hr (fun x hx => hw x (List.mem_append_right _ hx)) (fun t ht => hs t (List.mem_cons_of_mem _ ht)) (fun j t v hj hv' => hv (j + 1) t v (by simpa using hj) (by simpa using hv'))
    obtain ⟨l, hl⟩ := Option.isSome_iff_exists.1 (hs t (List.mem_cons_self ..))
    obtain ⟨fuel, hf⟩ := h0
    obtain ⟨cs, h3, h4⟩ := read_in B 6 fuel t _ _ l hl hf (fun x hx => hw x (List.mem_append_left _ hx))
    rcases okWide_one hl (hv 0 t v rfl rfl) with ⟨ha, vs2, rfl⟩ | ⟨ha, hc⟩
    · refine ⟨.agg cs :: as', ⟨.agg vs2 cs (by simpa [Value.cells] using h4.1) fun j d hd => ?_, h1⟩, ⟨l, cs, hl, h3, by rw [if_pos ha]⟩, h2⟩
      simp only [Value.cells] at h4
      have hjl : j < vs2.size := by
        have := (List.getElem?_eq_some_iff.1 hd).1
        rw [← h4.1] at this
        simpa using this
      have hj : vs2.toList[j]? = some (vs2.getD j Go.undef) := by
        rw [List.getElem?_eq_getElem (by simpa using hjl)]
        simp [Array.getD, hjl]
      exact .pure (h4.2 j _ d hj hd)
    · rw [hc] at h4
      have h5 := h4.1
      simp only [List.length_cons, List.length_nil] at h5
      match cs, h5, h3, h4 with
      | [a], _, h3, h4 =>
        exact ⟨a :: as', ⟨.pure (h4.2 0 v a rfl rfl), h1⟩, ⟨l, [a], hl, h3, by rw [if_neg (by rw [ha]; simp)]⟩, h2⟩

/-- WHAT THE WALK GIVES, FOR EVERY ARGUMENT. -/
theorem contractG {f : FuncId} {fn : Func} {s : ChangeSpec} {ts : List TypeId} {tb : TypeId} (hp : fn.params.toList = ts) (hr : fn.resultTypes.toList = [tb]) (hub : P.underlying tb = some .bool) (hvars : s.vars = []) (hvt : s.plain.varTypes P = [])
    (hfn : ∀ (H : Type) (ds : List (DataW H)), ds.length = ts.length → s.fn H ds = { results := [.lit (.bool true)], args := ds }) (hsh : ∀ t ∈ ts, (shOf P 6 t).isSome = true) (hlaid : laidOutB P = true)
    (hread : ∀ t ∈ ts, P.readableRec t = true ∧ t < P.types.size) (hlaw : ∀ as', FitA P 281474976710656 ts as' → FnOK P f as' (.bool true))
    {W : World} {base : Nat} {args : Array Value} {ds gs : List (DataW H)} {before : List MemPlace}
    (hval : ∀ (j : Nat) t v, fn.params[j]? = some t → args[j]? = some v → Value.okWide P W .any base t v)
    (hW : DataW.Whole enc P fn.params.toList s.vars false W args.toList ds gs before)
    (hsz : (DataW.weightsEach P (fn.params.toList ++ s.plain.varTypes P) (ds ++ gs)).all (· ≤ reachBytes) = true)
    (hg : GlobC (memW W) W (fun _ => False)) :
    Calls P f args W fun e W' => ∃ v, e = .returned v ∧ s.post enc P fn false true false false W args v W' := by
  have hW' := hW
  obtain ⟨p, q, hA0, hV, rfl, hfz, hnd⟩ := hW
  have hA : DataW.TrodAll enc P W 0 (fun _ => true) true fn.params.toList args.toList ds p := hA0
  rw [hvars] at hV
  obtain ⟨rfl, rfl⟩ := trodVars_none hV
  rw [hp] at hA
  rw [hvt, hp, List.append_nil, List.append_nil] at hsz
  have hwt : wOK 281474976710656 (DataW.weightsEach P ts ds) := fun x hx => by
    simp only [List.all_eq_true, decide_eq_true_eq] at hsz
    have := hsz x hx
    unfold reachBytes at this
    omega
  have hval' : ∀ (j : Nat) t v, ts[j]? = some t → args.toList[j]? = some v → Value.okWide P W .any base t v := fun j t v hj hv => hval j t v (by rw [← hp] at hj; simpa using hj) (by simpa using hv)
  obtain ⟨as', hrv, hfit⟩ := read_args 281474976710656 ts args.toList ds p hA hwt hsh hval'
  have hlen : ∀ (ts : List TypeId) (vs : List Value) (ds : List (DataW H)) (p : List MemPlace), DataW.TrodAll enc P W 0 (fun _ => true) true ts vs ds p → ds.length = ts.length := by
    intro ts
    induction ts with
    | nil => intro vs ds p h; obtain ⟨rfl, rfl, rfl⟩ := trodAll_nil h; rfl
    | cons t ts ih => intro vs ds p h; obtain ⟨v, vs', d, ds', p, q, rfl, rfl, rfl, _, hr⟩ := trodAll_cons h; simp [ih _ _ _ hr]
  have hdl := hlen _ _ _ _ hA
  have hcall := hlaw as' hfit (memW W) noH W args (fun _ => rfl) hg (fun b o v h => h) (by simpa using hrv.length) (fun j d hd => by
    have := hrv.get j d hd
    simpa [Array.getD_eq_getD_getElem?, List.getD] using this)
  simp only [List.append_nil] at hW'
  refine hcall.mono fun e W' ⟨v, φ', he, hret, hb, _⟩ => ?_
  subst he
  have hv : v = .bool true := (hret noH).bool_inv
  subst hv
  have hlt : ∀ x ∈ p, x.block < W.heap.size := fun x hx => by simpa using hW'.lt x (by simpa using hx)
  have key : ∀ (ts : List TypeId) (vs : List Value) (ds : List (DataW H)) (p : List MemPlace), (∀ t ∈ ts, P.readableRec t = true ∧ t < P.types.size) → (∀ x ∈ p, x.block < W.heap.size) → DataW.TrodAll enc P W 0 (fun _ => true) true ts vs ds p →
      DataW.TrodAll enc P W' 0 (fun b => decide (b < W.heap.size)) true ts vs ds p := by
    intro ts
    induction ts with
    | nil => intro vs ds p _ _ h; obtain ⟨rfl, rfl, rfl⟩ := trodAll_nil h; exact trodAll_mk0
    | cons t ts ih =>
      intro vs ds p hrd hx h
      obtain ⟨v, vs', d, ds', p, q, rfl, rfl, rfl, h0, hr⟩ := trodAll_cons h
      have ht := hrd t (List.mem_cons_self ..)
      exact trodAll_cons_mk (Below.trod hlaid ht.1 ht.2 h0 hb (fun x h => hx x (List.mem_append_left _ h))) (ih _ _ _ (fun t ht => hrd t (List.mem_cons_of_mem _ ht)) (fun x h => hx x (List.mem_append_right _ h)) hr)
  have hsp := hfn H ds hdl
  refine ⟨_, rfl, post_below (pa := p) (pv := []) hW' (fun _ _ _ => ?_) ?_ ?_ (by simp) hb⟩
  · rw [List.append_nil, hsp, hr]
    have : fn.resultTypes.size = 1 := by rw [← Array.length_toList, hr]; rfl
    rw [this]
    exact trodAll_cons_mk (shut_bool hub _) trodAll_mk0
  · rw [List.append_nil, hsp, hp]
    exact key _ _ _ _ hread hlt hA
  · rw [List.append_nil, hsp, hvars]
    rfl
end Go.Sx
namespace Go.Sx
variable {P : Program}
theorem fit_nil {B : Nat} {as' : List D} (h : FitA P B [] as') : as' = [] := by
  cases as' with
  | nil => rfl
  | cons a r => exact h.elim
theorem fit_str {B : Nat} {t : TypeId} {ts : List TypeId} {as' : List D} (h : FitA P B (t :: ts) as') (hs : shOf P 6 t = some [.str]) (ha : aggB P t = some false) : ∃ s as2, as' = .str s :: as2 ∧ s.length ≤ B ∧ FitA P B ts as2 := by
  cases as' with
  | nil => exact h.elim
  | cons a r =>
    obtain ⟨⟨l, cs, hl, hf, hc⟩, hr⟩ := h
    obtain rfl := Option.some.inj (hs.symm.trans hl)
    rw [if_neg (by rw [ha]; simp)] at hc
    subst hc
    simp only [Sh.fits, Sh.fit] at hf
    obtain ⟨d, ds, he, ⟨s, rfl, hb⟩, rfl⟩ := hf
    cases he
    exact ⟨s, r, rfl, hb, hr⟩
theorem fit_int {B : Nat} {t : TypeId} {ts : List TypeId} {as' : List D} {k : IntKind} (h : FitA P B (t :: ts) as') (hs : shOf P 6 t = some [.int k]) (ha : aggB P t = some false) : ∃ n as2, as' = .int k n :: as2 ∧ (Lit.int k n).wf = true ∧ FitA P B ts as2 := by
  cases as' with
  | nil => exact h.elim
  | cons a r =>
    obtain ⟨⟨l, cs, hl, hf, hc⟩, hr⟩ := h
    obtain rfl := Option.some.inj (hs.symm.trans hl)
    rw [if_neg (by rw [ha]; simp)] at hc
    subst hc
    simp only [Sh.fits, Sh.fit] at hf
    obtain ⟨d, ds, he, ⟨s, rfl, hb⟩, rfl⟩ := hf
    cases he
    exact ⟨s, r, rfl, hb, hr⟩
theorem fit_slice {B : Nat} {t : TypeId} {ts : List TypeId} {as' : List D} {le : List Sh} (h : FitA P B (t :: ts) as') (hs : shOf P 6 t = some [.slice le]) (ha : aggB P t = some false) :
    ∃ es as2, as' = .slice es [] :: as2 ∧ es.length ≤ B ∧ (∀ e ∈ es, Sh.fits B le e) ∧ FitA P B ts as2 := by
  cases as' with
  | nil => exact h.elim
  | cons a r =>
    obtain ⟨⟨l, cs, hl, hf, hc⟩, hr⟩ := h
    obtain rfl := Option.some.inj (hs.symm.trans hl)
    rw [if_neg (by rw [ha]; simp)] at hc
    subst hc
    simp only [Sh.fits, Sh.fit] at hf
    obtain ⟨d, ds, he, ⟨s, rfl, hb, hel⟩, rfl⟩ := hf
    cases he
    exact ⟨s, r, rfl, hb, hel, hr⟩
/-- Rows of numbers. -/
def intC (k : IntKind) (l : List Int) : List (List D) := l.map fun n => [D.int k n]
theorem ints_of {B : Nat} {k : IntKind} : ∀ {es : List (List D)}, (∀ e ∈ es, Sh.fits B [.int k] e) → ∃ l : List Int, es = intC k l ∧ ∀ n ∈ l, (Lit.int k n).wf = true
  | [], _ => ⟨[], rfl, fun _ h => by cases h⟩
  | e :: r, h => by
    obtain ⟨l, rfl, hb⟩ := ints_of (es := r) fun x hx => h x (List.mem_cons_of_mem _ hx)
    have := h e (List.mem_cons_self ..)
    simp only [Sh.fits, Sh.fit] at this
    obtain ⟨_, _, rfl, ⟨n, rfl, hn⟩, rfl⟩ := this
    refine ⟨n :: l, rfl, fun x hx => ?_⟩
    rcases List.mem_cons.1 hx with rfl | hx
    · exact hn
    · exact hb x hx
theorem wf_i64 {n : Int} (h : (Lit.int .i64 n).wf = true) : -9223372036854775808 ≤ n ∧ n ≤ 9223372036854775807 := by
  simp only [Lit.wf, Bool.and_eq_true, decide_eq_true_eq] at h
  have e1 : IntKind.i64.min = -9223372036854775808 := rfl
  have e2 : IntKind.i64.max = 9223372036854775807 := rfl
  omega
theorem wf_u8 {n : Int} (h : (Lit.int .u8 n).wf = true) : 0 ≤ n ∧ n ≤ 255 := by
  simp only [Lit.wf, Bool.and_eq_true, decide_eq_true_eq] at h
  have e1 : IntKind.u8.min = 0 := rfl
  have e2 : IntKind.u8.max = 255 := rfl
  omega
end Go.Sx

namespace Go.Sx
open Go.RowKit
variable [Globs] [Codes]

/- THE WALK BY TREES: all ways through a text at once, up to the heads of loops; calls by contracts. -/

/-- What a call comes to, as its contract says. -/
inductive RT where
  | ok (p : Prop) (r : D) (ob : Obs)
  | br (b : Bool) (x y : RT)

def RT.says (C : D → Obs → Prop) : RT → Prop
  | .ok p r ob => p → C r ob
  | .br b x y => match b with
    | true => x.says C
    | false => y.says C

/-- What is known: of pure calls, of calls with objects, the cells of elements; by the place in the text. -/
structure Ctr where
  F : Nat → FuncId → List D → Option RT := fun _ _ _ => none
  C : Nat → D → List D → Obs → Option RT := fun _ _ _ _ => none
  E : Nat → Int → List D := fun _ _ => []

structure Ctr.OK (tb : Ctr) (P : Program) : Prop where
  F : ∀ t f az rt, tb.F t f az = some rt → rt.says fun r _ => FnOK P f az r
  C : ∀ t d az ob rt, tb.C t d az ob = some rt → rt.says fun r ob' => CallL P d az ob fun r0 ob0 => r0 = r ∧ ob0 = ob'

inductive Tr where
  | ret (r : D) (ob : Obs)
  | jmp (K : List Fr) (s : St)
  | owe (p : Prop) (x : Tr)
  | bad

def brT (b : Bool) (x y : Tr) : Tr := match b with
  | true => x
  | false => y

def Tr.ok (R : D → Obs → Prop) (J : List Fr → St → Prop) : Tr → Prop
  | .ret r ob => R r ob
  | .jmp K s => J K s
  | .owe p x => p ∧ x.ok R J
  | .bad => False

section
variable {R : D → Obs → Prop} {J : List Fr → St → Prop}
theorem ok_ret {r : D} {ob : Obs} : (Tr.ret r ob).ok R J = R r ob := rfl
theorem ok_jmp {K : List Fr} {s : St} : (Tr.jmp K s).ok R J = J K s := rfl
theorem ok_owe {p : Prop} {x : Tr} : (Tr.owe p x).ok R J = (p ∧ x.ok R J) := rfl
theorem ok_br {b : Bool} {x y : Tr} : (brT b x y).ok R J = ((b = true → x.ok R J) ∧ (b = false → y.ok R J)) := by
  cases b <;> simp [brT]
theorem ok_true {x y : Tr} : (brT true x y) = x := rfl
theorem ok_false {x y : Tr} : (brT false x y) = y := rfl
end

/-- All elements have this many cells. -/
def allLen (sz : Nat) (es : List (List D)) : Prop := ∀ q ∈ es, q.length = sz
theorem allLen_nil (sz : Nat) : allLen sz [] := fun q hq => by cases hq
theorem allLen_cons {sz : Nat} {e : List D} {es : List (List D)} : allLen sz (e :: es) ↔ e.length = sz ∧ allLen sz es := by simp [allLen]
theorem allLen_append {sz : Nat} {es fs : List (List D)} : allLen sz (es ++ fs) ↔ allLen sz es ∧ allLen sz fs := by
  constructor
  · exact fun h => ⟨fun q hq => h q (List.mem_append.2 (.inl hq)), fun q hq => h q (List.mem_append.2 (.inr hq))⟩
  · rintro ⟨h1, h2⟩ q hq
    rcases List.mem_append.1 hq with h | h
    · exact h1 q h
    · exact h2 q h
theorem allLen_map {α : Type} {sz : Nat} {f : α → List D} (hf : ∀ a, (f a).length = sz) (l : List α) : allLen sz (l.map f) := fun q hq => by
  obtain ⟨a, _, rfl⟩ := List.mem_map.1 hq
  exact hf a

def arT (k : IntKind) (n : Int) (K : D → Tr) : Tr := match k with
  | .i64 => .owe (-9223372036854775808 ≤ n ∧ n ≤ 9223372036854775807) (K (.int .i64 n))
  | k => K (.int k (k.wrap n))

def oneT (d : Option D) (K : D → Tr) : Tr := match d with
  | some d => K d
  | none => .bad

def binT (op : BinOp) (k : IntKind) (a b : Int) (K : D → Tr) : Tr := match op with
  | .add => arT k (a + b) K
  | .sub => arT k (a - b) K
  | .mul => arT k (a * b) K
  | .quo => .owe (b ≠ 0) (arT k (a.tdiv b) K)
  | .rem => .owe (b ≠ 0) (K (.int k (a.tmod b)))
  | op => oneT (binIE op k a b) K

def binST (op : BinOp) (a b : List UInt8) (K : D → Tr) : Tr := match op with
  | .add => .owe (a.length + b.length ≤ 4611686018427387904) (K (.str (a ++ b)))
  | op => oneT (binSE op a b) K

def iaT (c : List D) (sz : Nat) (es : List (List D)) (n : Int) (K : D → Tr) : Tr := match c with
  | [] => .owe (0 ≤ n ∧ n < es.length ∧ (es.getD n.toNat []).length = sz) (K (.fptr (es.getD n.toNat [])))
  | c :: cs => if (c :: cs).length = sz then .owe (0 ≤ n ∧ es[n.toNat]? = some (c :: cs)) (K (.fptr (c :: cs))) else .bad

def rtT : RT → (D → Obs → Tr) → Tr
  | .ok p r ob, K => .owe p (K r ob)
  | .br b x y, K => brT b (rtT x K) (rtT y K)

def evT (tb : Ctr) (t dst : Nat) (o : AOp) (xs : List D) (obs : Nat → Option Ob) (K : D → Option Ob → Tr) : Tr :=
  match o, xs with
  | .pick, [.bool c, a, b] => brT c (K a none) (K b none)
  | .bin op, [.int k a, .int k' b] => if k = k' then binT op k a b (fun d => K d none) else .bad
  | .bin op, [.str a, .str b] => binST op a b (fun d => K d none)
  | .un .neg, [.int k a] => arT k (0 - a) (fun d => K d none)
  | .conv k, [.int _ n] => arT k n (fun d => K d none)
  | .iaddr sz, [.slice es _, .int _ n] => iaT (tb.E t n) sz es n (fun d => K d none)
  | .iaddr sz, [.vec id, .int _ n] => match obs id with
    | some (.arr true _ _ es) => iaT (tb.E t n) sz es n (fun d => K d none)
    | some (.arr false sz' _ es) => if sz' = sz then .owe (0 ≤ n ∧ n < es.length) (K (.vptr id n.toNat 0 sz) none) else .bad
    | _ => .bad
  | .index, [.str s, .int _ n] => .owe (0 ≤ n ∧ n < s.length) (K (.int .u8 (s.getD n.toNat 0).toNat) none)
  | .sliceS lo hi, .str s :: bs => match bounds lo hi s.length bs with
    | some (a, b) => .owe (0 ≤ a ∧ a ≤ b ∧ b ≤ s.length) (K (.str ((s.take b.toNat).drop a.toNat)) none)
    | none => .bad
  | .slice sz lo hi, d :: bs => match sliceOf obs d with
    | some (es, ext) => match bounds lo hi es.length bs with
      | some (a, b) => .owe (allLen sz (es ++ ext) ∧ 0 ≤ a ∧ a ≤ b ∧ b ≤ (es ++ ext).length) (K (.slice (((es ++ ext).take b.toNat).drop a.toNat) ((es ++ ext).drop b.toNat)) none)
      | none => .bad
    | none => .bad
  | .call f, ds => match tb.F t f (ds.map (dv obs)) with
    | some rt => rtT rt fun r _ => K (callR dst r).1 (callR dst r).2
    | none => .bad
  | .iaddrA len sz, [.fptr cs, .int _ n] => .owe (0 ≤ n ∧ n < len) (K (.fptr (cs.drop (n.toNat * sz))) none)
  | .iaddrA len sz, [.ptr id off, .int _ n] => .owe (0 ≤ n ∧ n < len) (K (.ptr id (off + n.toNat * sz)) none)
  | .sh left, [.int k a, .int _ b] => .owe (0 ≤ b) (K (.int k (shI left k a b)) none)
  | .b2s, [d] => match rowOf obs d with
    | some es => .owe (es = byC (bytesD es)) (K (.str (bytesD es)) none)
    | none => .bad
  | .mks fz sz e z bt, [.int _ n] => if z.all D.pur = true then .owe (0 ≤ n ∧ n * bt ≤ 281474976710656 ∧ n ≤ 1073741824) (K (.vec dst) (some (.arr fz sz e (List.replicate n.toNat z)))) else .bad
  | o, xs => match evE (fun _ _ => none) dst o xs obs with
    | some (d, nb) => K d nb
    | none => .bad

theorem wrap_fit {n : Int} (h : -9223372036854775808 ≤ n ∧ n ≤ 9223372036854775807) : IntKind.i64.wrap n = n := by
  rw [IntKind.wrap_i64]; omega

section
variable {R : D → Obs → Prop} {J : List Fr → St → Prop} {P : Program}

theorem arT_ok {k : IntKind} {n : Int} {K : D → Tr} (h : (arT k n K).ok R J) : (K (.int k (k.wrap n))).ok R J := by
  unfold arT at h
  split at h
  · rw [wrap_fit h.1]; exact h.2
  · exact h

theorem oneT_ok {d : Option D} {K : D → Tr} (h : (oneT d K).ok R J) : ∃ r, d = some r ∧ (K r).ok R J := by
  cases d with
  | none => exact h.elim
  | some d => exact ⟨d, rfl, h⟩

theorem binT_ok {op : BinOp} {k : IntKind} {a b : Int} {K : D → Tr} (h : (binT op k a b K).ok R J) : binI op k a b fun d => (K d).ok R J := by
  unfold binT at h
  split at h
  · exact arT_ok h
  · exact arT_ok h
  · exact arT_ok h
  · exact ⟨h.1, arT_ok h.2⟩
  · exact ⟨h.1, h.2⟩
  · obtain ⟨r, hr, hk⟩ := oneT_ok h
    exact binIE_sound hr hk

theorem binST_ok {op : BinOp} {a b : List UInt8} {K : D → Tr} (h : (binST op a b K).ok R J) : binS op a b fun d => (K d).ok R J := by
  unfold binST at h
  split at h
  · exact ⟨h.1, h.2⟩
  · obtain ⟨r, hr, hk⟩ := oneT_ok h
    exact binSE_sound hr hk

theorem iaT_ok {c : List D} {sz : Nat} {es : List (List D)} {n : Int} {K : D → Tr} (h : (iaT c sz es n K).ok R J) : 0 ≤ n ∧ n < es.length ∧ (es.getD n.toNat []).length = sz ∧ (K (.fptr (es.getD n.toNat []))).ok R J := by
  unfold iaT at h
  split at h
  · exact ⟨h.1.1, h.1.2.1, h.1.2.2, h.2⟩
  · rename_i c cs
    split at h
    · rename_i hsz
      obtain ⟨⟨h0, h1⟩, h2⟩ := h
      have hlt := (List.getElem?_eq_some_iff.1 h1).1
      have hg : es.getD n.toNat [] = c :: cs := by simp [List.getD, h1]
      rw [hg]
      exact ⟨h0, by omega, hsz, h2⟩
    · exact h.elim

theorem rtT_ok {C : D → Obs → Prop} {K : D → Obs → Tr} : ∀ {rt : RT}, rt.says C → (rtT rt K).ok R J → ∃ r ob, C r ob ∧ (K r ob).ok R J
  | .ok p r ob, hs, h => ⟨r, ob, hs h.1, h.2⟩
  | .br b x y, hs, h => by
    cases b
    · exact rtT_ok (rt := y) hs h
    · exact rtT_ok (rt := x) hs h

theorem brT_ok {b : Bool} {x y : Tr} (h : (brT b x y).ok R J) : (b = true ∧ x.ok R J) ∨ (b = false ∧ y.ok R J) := by
  cases b
  · exact .inr ⟨rfl, h⟩
  · exact .inl ⟨rfl, h⟩

theorem evT_ok {tb : Ctr} (htb : tb.OK P) {t dst : Nat} {op : AOp} {xs : List D} {obs : Nat → Option Ob} {K : D → Option Ob → Tr} (h : (evT tb t dst op xs obs K).ok R J) : evl P dst op xs obs fun d nb => (K d nb).ok R J := by
  unfold evT at h
  split at h
  case h_1 => 
    rcases brT_ok h with ⟨rfl, h⟩ | ⟨rfl, h⟩
    · exact h
    · exact h
  case h_2 =>
    split at h
    · rename_i hk; exact ⟨hk, binT_ok h⟩
    · exact h.elim
  case h_3 => exact binST_ok h
  case h_4 => exact arT_ok h
  case h_5 => exact arT_ok h
  case h_6 => exact iaT_ok h
  case h_7 =>
    simp only [evl]
    split at h
    · rename_i heq; rw [heq]; exact iaT_ok h
    · rename_i heq
      rw [heq]
      split at h
      · rename_i hs; exact ⟨hs, h.1.1, h.1.2, h.2⟩
      · exact h.elim
    · exact h.elim
  case h_8 => exact ⟨h.1.1, h.1.2, h.2⟩
  case h_9 =>
    simp only [evl]
    split at h
    · rename_i heq; simp only [heq]; exact ⟨h.1.1, h.1.2.1, h.1.2.2, h.2⟩
    · exact h.elim
  case h_10 =>
    simp only [evl]
    split at h
    · rename_i heq
      rw [heq]
      simp only
      split at h
      · rename_i heq2; simp only [heq2]; exact ⟨h.1.1, h.1.2.1, h.1.2.2.1, h.1.2.2.2, h.2⟩
      · exact h.elim
    · exact h.elim
  case h_11 =>
    split at h
    · rename_i rt hrt
      obtain ⟨r, ob, hf, hk⟩ := rtT_ok (htb.F _ _ _ _ hrt) h
      refine ⟨r, hf, ?_⟩
      cases r <;> exact hk
    · exact h.elim
  case h_12 => exact ⟨h.1.1, h.1.2, h.2⟩
  case h_13 => exact ⟨h.1.1, h.1.2, h.2⟩
  case h_14 => exact ⟨h.1, h.2⟩
  case h_15 =>
    simp only [evl]
    split at h
    · rename_i heq; simp only [heq]; exact ⟨h.1, h.2⟩
    · exact h.elim
  case h_16 =>
    split at h
    · rename_i hp; exact ⟨hp, h.1.1, h.1.2.1, h.1.2.2, h.2⟩
    · exact h.elim
  case h_17 =>
    split at h
    · rename_i heq; exact evE_sound (fn := fun _ _ => none) (P := P) (fun _ _ _ h => by cases h) heq h
    · exact h.elim

end
end Go.Sx

namespace Go.Sx
open Go.RowKit
variable [Globs] [Codes]

/- AN OPERATION COMES TO ONE END. -/
section
variable {P : Program} {dst : Nat} {obs : Nat → Option Ob} {K : D → Option Ob → Prop}
theorem binI_pick {op : BinOp} {k : IntKind} {a b : Int} {K : D → Prop} (h : binI op k a b K) : ∃ d, K d ∧ ∀ K' : D → Prop, K' d → binI op k a b K' := by
  cases op <;> simp only [binI] at h <;> first | exact h.elim | exact ⟨_, h, fun K' hk => hk⟩ | exact ⟨_, h.2, fun K' hk => ⟨h.1, hk⟩⟩
theorem binS_pick {op : BinOp} {a b : List UInt8} {K : D → Prop} (h : binS op a b K) : ∃ d, K d ∧ ∀ K' : D → Prop, K' d → binS op a b K' := by
  cases op <;> simp only [binS] at h <;> first | exact h.elim | exact ⟨_, h, fun K' hk => hk⟩ | exact ⟨_, h.2, fun K' hk => ⟨h.1, hk⟩⟩
theorem b2s_pick {d : D} (h : evl P dst .b2s [d] obs K) : ∃ d' nb, K d' nb ∧ ∀ K' : D → Option Ob → Prop, K' d' nb → evl P dst .b2s [d] obs K' := by
  simp only [evl] at h ⊢
  cases hq : rowOf obs d with
  | none => rw [hq] at h; exact h.elim
  | some es => rw [hq] at h; exact ⟨_, _, h.2, fun K' hk => ⟨h.1, hk⟩⟩
theorem vld_pick {agg : Bool} {sz id i j sz' : Nat} (h : evl P dst (.load agg sz) [.vptr id i j sz'] obs K) : ∃ d' nb, K d' nb ∧ ∀ K' : D → Option Ob → Prop, K' d' nb → evl P dst (.load agg sz) [.vptr id i j sz'] obs K' := by
  simp only [evl] at h ⊢
  cases hq : obs id with
  | none => rw [hq] at h; exact h.elim
  | some o =>
    rw [hq] at h
    cases o with
    | cells _ => exact h.elim
    | gen _ _ => exact h.elim
    | arr fz sz2 e es =>
      cases fz with
      | true => exact h.elim
      | false =>
        simp only at h ⊢
        have h2 := h.2.2
        cases hi : es[i]? with
        | none => rw [hi] at h2; exact h2.elim
        | some cs =>
          rw [hi] at h2
          cases agg with
          | true => exact ⟨_, _, h2, fun K' hk => ⟨h.1, h.2.1, hk⟩⟩
          | false =>
            simp only [Bool.false_eq_true, if_false] at h2 ⊢
            cases hj : cs[j]? with
            | none => rw [hj] at h2; exact h2.elim
            | some d => rw [hj] at h2; exact ⟨_, _, h2, fun K' hk => ⟨h.1, h.2.1, hk⟩⟩

theorem evl_pick {op : AOp} {xs : List D} (h : evl P dst op xs obs K) : ∃ d nb, K d nb ∧ ∀ K' : D → Option Ob → Prop, K' d nb → evl P dst op xs obs K' := by
  by_cases hb : op = .b2s ∧ ∃ d, xs = [d]
  · obtain ⟨rfl, d, rfl⟩ := hb; exact b2s_pick h
  by_cases hl : (∃ a s, op = .load a s) ∧ ∃ a b c d, xs = [.vptr a b c d]
  · obtain ⟨⟨_, _, rfl⟩, _, _, _, _, rfl⟩ := hl; exact vld_pick h
  unfold evl at h
  split at h
  all_goals try exact absurd ⟨rfl, _, rfl⟩ hb
  all_goals try exact absurd ⟨⟨_, _, rfl⟩, _, _, _, _, rfl⟩ hl
  all_goals clear hb hl
  all_goals try simp only [evl]
  all_goals first
    | exact h.elim
    | (obtain ⟨d, hk, hK⟩ := binI_pick h.2; exact ⟨d, none, hk, fun K' hk' => ⟨h.1, hK _ hk'⟩⟩)
    | (obtain ⟨d, hk, hK⟩ := binS_pick h; exact ⟨d, none, hk, fun K' hk' => hK _ hk'⟩)
    | exact ⟨_, _, h, fun K' hk => hk⟩
    | exact ⟨_, _, h.2, fun K' hk => ⟨h.1, hk⟩⟩
    | exact ⟨_, _, h.2.2, fun K' hk => ⟨h.1, h.2.1, hk⟩⟩
    | exact ⟨_, _, h.2.2.2, fun K' hk => ⟨h.1, h.2.1, h.2.2.1, hk⟩⟩
    | skip
  all_goals first
    | (obtain ⟨r, hr, hk'⟩ := h; cases r <;> exact ⟨_, _, hk', fun K' hk => ⟨_, hr, hk⟩⟩)
    | skip
  all_goals
    repeat' split at h
  all_goals first
    | exact h.elim
    | exact ⟨_, _, h, fun K' hk => by simp only [*]; exact hk⟩
    | exact ⟨_, _, h, fun K' hk => by simp [*]⟩
    | exact ⟨_, _, h.2, fun K' hk => by simp only [*]; exact ⟨h.1, hk⟩⟩
    | exact ⟨_, _, h.2, fun K' hk => by simp only [*]; exact ⟨trivial, hk⟩⟩
    | exact ⟨_, _, h.2.2, fun K' hk => by simp only [*]; exact ⟨h.1, h.2.1, hk⟩⟩
    | exact ⟨_, _, h.2.2.2, fun K' hk => by simp only [*]; exact ⟨h.1, h.2.1, h.2.2.1, hk⟩⟩
    | exact ⟨_, _, h.2.2.2.2, fun K' hk => by simp only [*]; exact ⟨h.1, h.2.1, h.2.2.1, h.2.2.2.1, hk⟩⟩
    | skip
  all_goals first
    | exact ⟨_, _, h.2, fun K' hk => ⟨h.1, hk⟩⟩
    | exact ⟨_, _, h.2.2.2, fun K' hk => ⟨h.1, h.2.1, h.2.2.1, hk⟩⟩
    | exact ⟨_, _, h.2.2.2.2, fun K' hk => ⟨h.1, h.2.1, h.2.2.1, h.2.2.2.1, hk⟩⟩
    | (rename_i hag; subst hag; exact ⟨_, _, h.2, fun K' hk => ⟨h.1, hk⟩⟩)
end

def repl (t : Nat) (d : D) : Env → Env
  | [] => []
  | (j, x) :: r => if t = j then (j, d) :: r else (j, x) :: repl t d r
theorem repl_same {t : Nat} {d : D} : ∀ {l : Env}, lk l t = some d → repl t d l = l
  | [], h => by cases h
  | (j, x) :: r, h => by
    simp only [lk] at h
    simp only [repl]
    split at h
    · rename_i hj; cases h; rw [if_pos hj]
    · rename_i hj; rw [if_neg hj, repl_same h]

/-- The guard: both ways. -/
def gudT (g : Option (Nat × Bool)) (s : St) (body skip : St → Tr) : Tr := match g with
  | none => body s
  | some (t, want) => match lk s.tm t with
    | some (.bool b) => match want with
      | true => brT b (body ⟨repl t (.bool true) s.tm, s.ob⟩) (skip ⟨repl t (.bool false) s.tm, s.ob⟩)
      | false => brT b (skip ⟨repl t (.bool true) s.tm, s.ob⟩) (body ⟨repl t (.bool false) s.tm, s.ob⟩)
    | some (.tuple []) => skip s
    | _ => .bad

section
variable {R : D → Obs → Prop} {J : List Fr → St → Prop} {P : Program}
theorem gudT_ok {g : Option (Nat × Bool)} {s : St} {body skip : St → Tr} (h : (gudT g s body skip).ok R J) : ((body s).ok R J ∧ ∀ p q : Prop, p → gud g s p q) ∨ ((skip s).ok R J ∧ ∀ p q : Prop, q → gud g s p q) := by
  cases g with
  | none => exact .inl ⟨h, fun p q hp => hp⟩
  | some gw =>
    obtain ⟨t, w⟩ := gw
    simp only [gudT] at h
    simp only [gud]
    split at h
    · rename_i b heq
      rw [heq]
      split at h
      · rcases brT_ok h with ⟨rfl, h⟩ | ⟨rfl, h⟩
        · rw [repl_same heq] at h; exact .inl ⟨h, fun p q hp => by simpa using hp⟩
        · rw [repl_same heq] at h; exact .inr ⟨h, fun p q hp => by simpa using hp⟩
      · rcases brT_ok h with ⟨rfl, h⟩ | ⟨rfl, h⟩
        · rw [repl_same heq] at h; exact .inr ⟨h, fun p q hp => by simpa using hp⟩
        · rw [repl_same heq] at h; exact .inl ⟨h, fun p q hp => by simpa using hp⟩
    · rename_i heq; rw [heq]; exact .inr ⟨h, fun p q hp => hp⟩
    · exact h.elim
end

/-- A store. -/
def stT (sz : Nat) (x y : D) (obs : Nat → Option Ob) (K : Nat → Ob → Tr) : Tr := match stO sz x y obs with
  | some (a, b, id, o) => match x with
    | .ptr .. => K id o
    | _ => .owe (a < b) (K id o)
  | none => .bad
theorem stO_ptr {sz a b id i off : Nat} {y : D} {o : Ob} {obs : Nat → Option Ob} (h : stO sz (.ptr i off) y obs = some (a, b, id, o)) : a < b := by
  unfold stO at h
  simp only at h
  split at h
  · split at h
    · cases h; decide
    · cases h
  · cases h
theorem stT_ok {sz : Nat} {x y : D} {obs : Nat → Option Ob} {K : Nat → Ob → Tr} {R : D → Obs → Prop} {J : List Fr → St → Prop} (h : (stT sz x y obs K).ok R J) : ∃ a b id o, stO sz x y obs = some (a, b, id, o) ∧ a < b ∧ (K id o).ok R J := by
  unfold stT at h
  split at h
  · rename_i a b id o hst
    split at h
    · exact ⟨_, _, id, o, hst, stO_ptr hst, h⟩
    · exact ⟨_, _, id, o, hst, h.1, h.2⟩
  · exact h.elim
/-- An operation: the state behind it. -/
def opT (tb : Ctr) (b : Nat) (o : SOp) (s : St) (K : St → Tr) : Tr :=
  match o with
  | .a dst g op xs => gudT g s (fun s => evT tb (dst.getD 0) (b + dst.getD 0) op (xs.map s.get) (lk s.ob) fun d nb => match nb with
      | none => K (s.put dst d)
      | some ob => match dst with
        | some t => if s.clean (b + t) = true then K (s.put2 t (b + t) d ob) else .bad
        | none => .bad) (fun s => K (s.put dst .nov))
  | .st g sz x y => gudT g s (fun s => stT sz (s.get x) (s.get y) (lk s.ob) fun id o => K { s with ob := (id, o) :: eraseId id s.ob }) (fun s => K s)
  | .app dst g fz sz et x y => gudT g s (fun s => match sliceOf (lk s.ob) (s.get y) with
      | some (ys, _) => (match s.get x with
        | .nils => if s.clean (b + dst) = true then .owe (allLen sz ys ∧ ys.length ≤ 1073741824) (K (s.put2 dst (b + dst) (.vec (b + dst)) (.arr fz sz et ys))) else .bad
        | .vec id => match lk s.ob id with
          | some (.arr fz' sz' e' es) => if sz' = sz ∧ e' = et ∧ s.clean (b + dst) = true then .owe (allLen sz ys ∧ es.length + ys.length ≤ 1073741824) (K (St.put2 ⟨s.tm, eraseId id s.ob⟩ dst (b + dst) (.vec (b + dst)) (.arr fz' sz et (es ++ ys)))) else .bad
          | _ => .bad
        | _ => .bad)
      | none => .bad) (fun s => K (s.put (some dst) .nov))
  | .cd dst g x xs => gudT g s
      (fun s =>
          let az := xs.map fun x => dva (lk s.ob) (s.get x)
          let nm := handN s (s.get x :: az)
          if nodupB nm = true then (match tb.C (dst.getD 0) ((s.get x).ren (idx · nm)) (az.map (D.ren (idx · nm))) (handO s.ob (idx · nm) 0 nm) with
            | some rt => rtT rt fun r ob' => K ((s.back (s.base b) nm ob').put dst (r.ren (bkN (s.base b) nm)))
            | none => .bad) else .bad)
      (fun s => K (s.put dst .nov))

section
variable {R : D → Obs → Prop} {J : List Fr → St → Prop} {P : Program}
theorem opT_ok {tb : Ctr} (htb : tb.OK P) {b : Nat} {o : SOp} {s : St} {K : St → Tr} (h : (opT tb b o s K).ok R J) : ∃ s', (∀ K' : St → Prop, K' s' → stp P b o s K') ∧ (K s').ok R J := by
  cases o with
  | a dst g op xs =>
    simp only [opT] at h
    rcases gudT_ok h with ⟨h, hg⟩ | ⟨h, hg⟩
    · obtain ⟨d, nb, hk, hK⟩ := evl_pick (evT_ok htb h)
      cases nb with
      | none => exact ⟨s.put dst d, fun K' hk' => hg _ _ (hK _ hk'), hk⟩
      | some ob =>
        cases dst with
        | none => exact hk.elim
        | some t =>
          simp only at hk
          split at hk
          · rename_i hc; exact ⟨_, fun K' hk' => hg _ _ (hK _ ⟨hc, hk'⟩), hk⟩
          · exact hk.elim
    · exact ⟨_, fun K' hk' => hg _ _ hk', h⟩
  | st g sz x y =>
    simp only [opT] at h
    rcases gudT_ok h with ⟨h, hg⟩ | ⟨h, hg⟩
    · obtain ⟨a1, b1, id, ob, hst, hab, h⟩ := stT_ok h
      exact ⟨_, fun K' hk' => hg _ _ (by simp only [hst]; exact ⟨hab, hk'⟩), h⟩
    · exact ⟨_, fun K' hk' => hg _ _ hk', h⟩
  | app dst g fz sz et x y =>
    simp only [opT] at h
    rcases gudT_ok h with ⟨h, hg⟩ | ⟨h, hg⟩
    · split at h
      · rename_i ys ext hso
        split at h
        · rename_i hx
          split at h
          · rename_i hc
            exact ⟨_, fun K' hk' => hg _ _ (by simp only [hx, hso]; exact ⟨h.1.1, h.1.2, hc, hk'⟩), h.2⟩
          · exact h.elim
        · rename_i id hx
          split at h
          · rename_i fz' sz' e' es hl
            split at h
            · rename_i hc
              exact ⟨_, fun K' hk' => hg _ _ (by simp only [hx, hso, hl]; exact ⟨h.1.1, hc.1, hc.2.1, h.1.2, hc.2.2, hk'⟩), h.2⟩
            · exact h.elim
          · exact h.elim
        · exact h.elim
      · exact h.elim
    · exact ⟨_, fun K' hk' => hg _ _ hk', h⟩
  | cd dst g x xs =>
    simp only [opT] at h
    rcases gudT_ok h with ⟨h, hg⟩ | ⟨h, hg⟩
    · split at h
      · rename_i hnd
        split at h
        · rename_i rt hrt
          obtain ⟨r, ob', hc, hk⟩ := rtT_ok (htb.C _ _ _ _ _ hrt) h
          have hb : b + 4096 ≤ s.base b := Nat.le_max_left ..
          have ht : s.top ≤ s.base b := Nat.le_max_right ..
          exact ⟨_, fun K' hk' => hg _ _ ⟨_, _, s.base b, nodupB_sound hnd, fun i hi => handN_some i hi, hb, ht, hc, fun r0 ob0 hr => by rw [hr.1, hr.2]; exact hk'⟩, hk⟩
        · exact h.elim
      · exact h.elim
    · exact ⟨_, fun K' hk' => hg _ _ hk', h⟩
end

def opsT (tb : Ctr) (b : Nat) : List SOp → St → (St → Tr) → Tr
  | [], s, K => K s
  | o :: l, s, K => opT tb b o s fun s => opsT tb b l s K

/-- The effect of an operation. -/
def hasT (tb : Ctr) (b : Nat) (o : SOp) (s : St) (K : St → Eff → Tr) : Tr :=
  match o with
  | .a dst g op xs => gudT g s (fun s => evT tb (dst.getD 0) (b + dst.getD 0) op (xs.map s.get) (lk s.ob) fun d nb => match nb with
      | none => K s ⟨rdA (lk s.ob) op (xs.map s.get), dst.map (·, d), [], none⟩
      | some ob => if dst.isSome then K s ⟨rdA (lk s.ob) op (xs.map s.get), dst.map (·, d), [(b + dst.getD 0, some ob)], none⟩ else .bad) (fun s => K s ⟨[], dst.map (·, .nov), [], none⟩)
  | .st g sz x y => gudT g s (fun s => stT sz (s.get x) (s.get y) (lk s.ob) fun id o => K s ⟨[id], none, [(id, some o)], none⟩) (fun s => K s ⟨[], none, [], none⟩)
  | .app dst g fz sz et x y => gudT g s (fun s => match sliceOf (lk s.ob) (s.get y) with
      | some (ys, _) => (match s.get x with
        | .nils => .owe (allLen sz ys ∧ ys.length ≤ 1073741824) (K s ⟨vids [s.get y], some (dst, .vec (b + dst)), [(b + dst, some (.arr fz sz et ys))], none⟩)
        | .vec id => match lk s.ob id with
          | some (.arr fz' sz' e' es) => if sz' = sz ∧ e' = et then .owe (allLen sz ys ∧ es.length + ys.length ≤ 1073741824) (K s ⟨id :: vids [s.get y], some (dst, .vec (b + dst)), [(b + dst, some (.arr fz' sz et (es ++ ys))), (id, none)], none⟩) else .bad
          | _ => .bad
        | _ => .bad)
      | none => .bad) (fun s => K s ⟨[], some (dst, .nov), [], none⟩)
  | .cd dst g x xs => gudT g s
      (fun s =>
          let az := xs.map fun x => dva (lk s.ob) (s.get x)
          let nm := handN s (s.get x :: az)
          if nodupB nm = true then (match tb.C (dst.getD 0) ((s.get x).ren (idx · nm)) (az.map (D.ren (idx · nm))) (handO s.ob (idx · nm) 0 nm) with
            | some rt => rtT rt fun r ob' => K s ⟨nm ++ vids (xs.map s.get), dst.map (·, r.ren (bkN (s.base b) nm)), (renO (fun j => match nm[j]? with | some i => i | none => s.base b + j) (bkN (s.base b) nm) ob').map (fun p => (p.1, some p.2)) ++ nm.map (·, none), some (s.base b)⟩
            | none => .bad) else .bad)
      (fun s => K s ⟨[], dst.map (·, .nov), [], none⟩)

def caT (tb : Ctr) (b : Nat) : List SOp → St → (List Eff → St → Tr) → Tr
  | [], s, K => K [] s
  | o :: l, s, K => hasT tb b o s fun s e => caT tb b l (s.app e) fun es s => K (e :: es) s

section
variable {R : D → Obs → Prop} {J : List Fr → St → Prop} {P : Program}
theorem opsT_ok {tb : Ctr} (htb : tb.OK P) {b : Nat} {K : St → Tr} : ∀ {ops : List SOp} {s : St}, (opsT tb b ops s K).ok R J → ∃ s', (∀ K' : St → Prop, K' s' → stps P b ops s K') ∧ (K s').ok R J
  | [], s, h => ⟨s, fun K' hk => hk, h⟩
  | o :: l, s, h => by
    obtain ⟨s1, h1, hk1⟩ := opT_ok htb h
    obtain ⟨s2, h2, hk2⟩ := opsT_ok htb hk1
    exact ⟨s2, fun K' hk => h1 _ (h2 _ hk), hk2⟩

theorem hasT_ok {tb : Ctr} (htb : tb.OK P) {b : Nat} {o : SOp} {s : St} {K : St → Eff → Tr} (h : (hasT tb b o s K).ok R J) : ∃ e, Has P b o s e ∧ (K s e).ok R J := by
  cases o with
  | a dst g op xs =>
    simp only [hasT] at h
    rcases gudT_ok h with ⟨h, hg⟩ | ⟨h, hg⟩
    · obtain ⟨d, nb, hk, hK⟩ := evl_pick (evT_ok htb h)
      cases nb with
      | none => exact ⟨_, hg _ _ ⟨rfl, rfl, hK _ ⟨rfl, rfl⟩⟩, hk⟩
      | some ob =>
        simp only at hk
        split at hk
        · rename_i hc; exact ⟨_, hg _ _ ⟨rfl, rfl, hK _ ⟨rfl, hc, rfl⟩⟩, hk⟩
        · exact hk.elim
    · exact ⟨_, hg _ _ rfl, h⟩
  | st g sz x y =>
    simp only [hasT] at h
    rcases gudT_ok h with ⟨h, hg⟩ | ⟨h, hg⟩
    · obtain ⟨a1, b1, id, ob, hst, hab, h⟩ := stT_ok h
      exact ⟨_, hg _ _ (by simp only [HasB, hst]; exact ⟨hab, trivial⟩), h⟩
    · exact ⟨_, hg _ _ rfl, h⟩
  | app dst g fz sz et x y =>
    simp only [hasT] at h
    rcases gudT_ok h with ⟨h, hg⟩ | ⟨h, hg⟩
    · split at h
      · rename_i ys ext hso
        split at h
        · rename_i hx
          exact ⟨_, hg _ _ (by simp only [HasB, hx, hso]; exact ⟨h.1.1, h.1.2, trivial⟩), h.2⟩
        · rename_i id hx
          split at h
          · rename_i fz' sz' e' es hl
            split at h
            · rename_i hc
              exact ⟨_, hg _ _ (by simp only [HasB, hx, hso, hl]; exact ⟨h.1.1, hc.1, hc.2, h.1.2, trivial⟩), h.2⟩
            · exact h.elim
          · exact h.elim
        · exact h.elim
      · exact h.elim
    · exact ⟨_, hg _ _ rfl, h⟩
  | cd dst g x xs =>
    simp only [hasT] at h
    rcases gudT_ok h with ⟨h, hg⟩ | ⟨h, hg⟩
    · split at h
      · rename_i hnd
        split at h
        · rename_i rt hrt
          obtain ⟨r, ob', hc, hk⟩ := rtT_ok (htb.C _ _ _ _ _ hrt) h
          have hb : b + 4096 ≤ s.base b := Nat.le_max_left ..
          exact ⟨_, hg _ _ ⟨_, r, ob', s.base b, nodupB_sound hnd, fun i hi => handN_some i hi, hb, hc, rfl⟩, hk⟩
        · exact h.elim
      · exact h.elim
    · exact ⟨_, hg _ _ rfl, h⟩

theorem caT_ok {tb : Ctr} (htb : tb.OK P) {b : Nat} : ∀ {ops : List SOp} {s : St} {K : List Eff → St → Tr}, (caT tb b ops s K).ok R J → ∃ es s', Canon P b ops s es s' ∧ (K es s').ok R J
  | [], s, K, h => ⟨[], s, rfl, h⟩
  | o :: l, s, K, h => by
    obtain ⟨e, h1, hk1⟩ := hasT_ok htb h
    obtain ⟨es, s2, h2, hk2⟩ := caT_ok htb hk1
    exact ⟨e :: es, s2, ⟨h1, h2⟩, hk2⟩
end
end Go.Sx

namespace Go.Sx
open Go.RowKit
variable [Globs] [Codes]

/-- A run in small steps, n of them at most. -/
def swF (P : Program) : Nat → Nat → List Fr → St → (Exit → St → Prop) → Prop
  | 0, _, _, _, _ => False
  | n + 1, bs, K, s, Q => match K with
    | [] => Q .normal s
    | .blk _ :: K => swF P n bs K s Q
    | .sc c :: K => match c with
      | .skip => swF P n bs K s Q
      | .ret => Q .ret s
      | .exit i => match popTo i K with
        | some K' => swF P n bs K' s Q
        | none => Q (.exit i) s
      | .reg ops => stps P (s.nx bs) ops s fun s' => swF P n bs K s' Q
      | .drw pre ops => ∃ es s', Canon P (s.nx bs) ops s es s' ∧ dchk (s.nx bs) pre ops es s = true ∧ swF P n bs K s' Q
      | .seq a b => swF P n bs (.sc a :: .sc b :: K) s Q
      | .cond x a b => match s.get x with
        | .bool t => swF P n bs (.sc (if t = true then a else b) :: K) s Q
        | _ => False
      | .block id c => swF P n bs (.sc c :: .blk id :: K) s Q
      | .loop ts c => swF P n bs (.sc c :: .sc (.loop ts c) :: K) (s.canon bs ts) Q
      | .rangeF N g ps a b => sw P bs (.rangeF N g ps a b) (fun e s' => match e with
        | .normal => swF P n bs K s' Q
        | .ret => Q .ret s'
        | .exit i => match popTo i K with
          | some K' => swF P n bs K' s' Q
          | none => Q (.exit i) s'
        | _ => False) s

section
variable {P : Program}
def resF' (P : Program) (m bs : Nat) (K : List Fr) (ex : Exit) (s : St) (Q : Exit → St → Prop) : Prop := match ex with
  | .normal => swF P m bs K s Q
  | .ret => Q .ret s
  | .exit i => match popTo i K with
    | some K' => swF P m bs K' s Q
    | none => Q (.exit i) s
  | _ => False

theorem swF_sound : ∀ (n bs : Nat) (c : SC) (K : List Fr) (s : St) (Q : Exit → St → Prop), swF P n bs (.sc c :: K) s Q → sw P bs c (fun ex s1 => ∃ m, m < n ∧ resF' P m bs K ex s1 Q) s := by
  intro n
  induction n using Nat.strongRecOn with
  | _ n ih =>
    intro bs c K s Q h
    cases n with
    | zero => cases h
    | succ n =>
      cases c with
      | skip => exact ⟨n, Nat.lt_succ_self n, h⟩
      | ret => exact ⟨n, Nat.lt_succ_self n, h⟩
      | exit i => exact ⟨n, Nat.lt_succ_self n, h⟩
      | reg ops => exact stps_mono (K := fun s' => swF P n bs K s' Q) h fun s' hs' => ⟨n, Nat.lt_succ_self n, hs'⟩
      | drw pre ops =>
        obtain ⟨es, s', h1, h2, h3⟩ := h
        exact ⟨es, s', h1, h2, n, Nat.lt_succ_self n, h3⟩
      | seq a b =>
        show sw P bs a (thenS (sw P bs b _) _) s
        refine sw_mono (ih n (Nat.lt_succ_self n) bs a _ s Q h) fun ex s1 ⟨m, hm, hr⟩ => ?_
        cases ex <;> simp only [thenS]
        · exact sw_mono (ih m (by omega) bs b K s1 Q hr) fun ex s2 ⟨m', hm', hr'⟩ => ⟨m', by omega, hr'⟩
        · exact ⟨m, by omega, hr⟩
        · exact hr.elim
        · exact ⟨m, by omega, hr⟩
        all_goals exact hr.elim
      | cond x a b =>
        simp only [swF] at h
        simp only [sw]
        split at h
        · rename_i t hx
          cases t
          · rw [if_neg (by simp)] at h
            rw [hx]
            simp only [Bool.false_eq_true, if_false]
            exact sw_mono (ih n (Nat.lt_succ_self n) bs b K s Q h) fun ex s1 ⟨m, hm, hr⟩ => ⟨m, by omega, hr⟩
          · rw [if_pos rfl] at h
            rw [hx]
            simp only [if_true]
            exact sw_mono (ih n (Nat.lt_succ_self n) bs a K s Q h) fun ex s1 ⟨m, hm, hr⟩ => ⟨m, by omega, hr⟩
        · exact h.elim
      | block id c =>
        show sw P bs c (inBlockS id _) s
        refine sw_mono (ih n (Nat.lt_succ_self n) bs c _ s Q h) fun ex s1 ⟨m, hm, hr⟩ => ?_
        cases ex <;> simp only [inBlockS]
        · cases m with
          | zero => cases hr
          | succ m => exact ⟨m, by omega, hr⟩
        · rename_i i
          simp only [resF', popTo] at hr
          split
          · rename_i hi; rw [if_pos hi] at hr; exact ⟨m, by omega, hr⟩
          · rename_i hi; rw [if_neg hi] at hr; exact ⟨m, by omega, hr⟩
        · exact hr.elim
        · exact ⟨m, by omega, hr⟩
        all_goals exact hr.elim
      | loop ts c =>
        refine ⟨ts, fun k s' => k ≤ n ∧ swF P k bs (.sc c :: .sc (.loop ts c) :: K) s' Q, ⟨n, Nat.le_refl _, h⟩, fun k s' hk => ?_⟩
        refine sw_mono (ih k (by omega) bs c _ s' Q hk.2) fun ex s1 ⟨m, hm, hr⟩ => ?_
        cases ex <;> simp only [thenS]
        · cases m with
          | zero => cases hr
          | succ m => exact ⟨m, by omega, by omega, hr⟩
        · exact ⟨m, by omega, hr⟩
        · exact hr.elim
        · exact ⟨m, by omega, hr⟩
        all_goals exact hr.elim
      | rangeF N g ps a b =>
        simp only [swF] at h
        exact sw_mono h fun ex s1 hr => ⟨n, Nat.lt_succ_self n, hr⟩

/-- From here, the frames' run comes to an end of this kind. -/
def At (P : Program) (bs : Nat) (K : List Fr) (s : St) (Q : Exit → St → Prop) : Prop := ∃ n, swF P n bs K s Q

/-- The order in which objects are listed says nothing. -/
theorem CallL.reordG {P : Program} {d : D} {args : List D} {ob : Obs} {R : D → Obs → Prop} (h : CallL P d args ob (fun r0 ob0 => R r0 (sortO ob0))) : CallL P d args ob R := by
  intro F hF n φ hh w v vs hp hv hvs
  refine (h F hF n φ hh w v vs hp hv hvs).mono ?_
  rintro e w' ⟨u, r0, ob0, φ', h', rfl, hR, hrv, ha⟩
  have he : ∀ i, lk (sortO ob0) i = lk ob0 i := fun i => lk_sortO i ob0
  exact ⟨u, r0, sortO ob0, φ', h', rfl, hR, hrv, ⟨⟨ha.loc.one, ha.loc.glob.sub fun b ⟨i, hi, hb⟩ => ⟨i, by rw [← he]; exact hi, hb⟩, ha.loc.mem, fun i o ho => ha.loc.obj i o (by rw [← he]; exact ho), fun i j b hi hj => ha.loc.sep i j b (by rw [← he]; exact hi) (by rw [← he]; exact hj)⟩,
    ha.ext, ha.new, ha.frame, ha.hfix, ha.os, ha.tape, ha.output, ha.grow⟩⟩

/-- What a pure function hands back. -/
def RE (pu : Bool) (R : D → Obs → Prop) : D → Obs → Prop := match pu with
  | true => fun d ob => ∃ r, retE d ob = some r ∧ R r []
  | false => fun d ob => R d (sortO ob)

/-- The function's end. -/
def FinQ (pu : Bool) (bs : Nat) (rs : List SR) (R : D → Obs → Prop) : Exit → St → Prop := fun e s => match e with
  | .normal => ∃ ds, rs.mapM (resD s) = some ds ∧ RetL bs (RE pu R) s (packD ds)
  | .ret => ∃ ds, rs.mapM (resD s) = some ds ∧ RetL bs (RE pu R) s (packD ds)
  | _ => False

def endT (pu : Bool) (bs : Nat) (rs : List SR) (s : St) : Tr := match rs.mapM (resD s) with
  | some ds => match pu with
    | true => match retE ((s.fin bs (packD ds)).get (.t 0)) (s.fin bs (packD ds)).ob with
      | some r => .ret r []
      | none => .bad
    | false => .ret ((s.fin bs (packD ds)).get (.t 0)) (sortO (s.fin bs (packD ds)).ob)
  | none => .bad

/-- The end of a function, of a kind. -/
def finF (pu : Bool) (bs : Nat) (rs : List SR) : Exit → St → Tr := fun e s => match e with
  | .normal => endT pu bs rs s
  | .ret => endT pu bs rs s
  | _ => .bad

def goTStep (P : Program) (tb : Ctr) (bs : Nat) (fin : Exit → St → Tr) (ih : List Fr → St → Tr) : List Fr → St → Tr := fun K s => match K with
  | [] => fin .normal s
  | .blk _ :: K => ih K s
  | .sc c :: K => match c with
    | .skip => ih K s
    | .ret => fin .ret s
    | .exit i => match popTo i K with
      | some K' => ih K' s
      | none => fin (.exit i) s
    | .reg ops => opsT tb (s.nx bs) ops s fun s' => ih K s'
    | .drw pre ops => caT tb (s.nx bs) ops s fun es s' => if dchk (s.nx bs) pre ops es s = true then ih K s' else .bad
    | .seq a b => ih (.sc a :: .sc b :: K) s
    | .cond x a b => match s.get x with
      | .bool t => brT t (ih (.sc a :: K) s) (ih (.sc b :: K) s)
      | _ => .bad
    | .block id c => ih (.sc c :: .blk id :: K) s
    | .loop ts c => .jmp (.sc c :: .sc (.loop ts c) :: K) (s.canon bs ts)
    | .rangeF N g ps a b =>
      let ob1 := rngS P s (s.nx bs) N ps a b
      let nm := handN ⟨s.tm, ob1⟩ [s.get g, .yld (s.nx bs)]
      match s.get g with
      | .func (.func f) fa fc => if nodupB nm = true ∧ pureF P f = true then
          (match tb.C 0 ((s.get g).ren (idx · nm)) [(D.yld (s.nx bs)).ren (idx · nm)] (handO ob1 (idx · nm) 0 nm) with
          | some rt => rtT rt fun r ob' =>
            let S := St.back ⟨s.tm, ob1⟩ (s.nx bs + 1) nm ob'
            match lk S.ob (s.nx bs) with
            | some (.gen (.loop st pend _ _ _ _ _) _) => if st = .busy then .bad else (match pend with
              | none => ih K ⟨s.tm, eraseId (s.nx bs) S.ob⟩
              | some .ret => fin .ret ⟨s.tm, eraseId (s.nx bs) S.ob⟩
              | some (.exit i) => match popTo i K with
                | some K' => ih K' ⟨s.tm, eraseId (s.nx bs) S.ob⟩
                | none => fin (.exit i) ⟨s.tm, eraseId (s.nx bs) S.ob⟩
              | _ => .bad)
            | _ => .bad
          | none => .bad) else .bad
      | _ => .bad

/-- All ways to the next heads of loops. -/
def goT (P : Program) (tb : Ctr) (bs : Nat) (fin : Exit → St → Tr) (n : Nat) : List Fr → St → Tr := Nat.rec (fun _ _ => .bad) (fun _ ih => goTStep P tb bs fin ih) n

theorem goT_succ (tb : Ctr) (bs : Nat) (fin : Exit → St → Tr) (n : Nat) : goT P tb bs fin (n + 1) = goTStep P tb bs fin (goT P tb bs fin n) := rfl

theorem endT_ok {pu : Bool} {bs : Nat} {rs : List SR} {s : St} {R : D → Obs → Prop} {J : List Fr → St → Prop} (h : (endT pu bs rs s).ok R J) : ∃ ds, rs.mapM (resD s) = some ds ∧ RetL bs (RE pu R) s (packD ds) := by
  unfold endT at h
  split at h
  · rename_i ds hds
    refine ⟨ds, hds, ?_⟩
    cases pu with
    | true =>
      simp only at h
      split at h
      · rename_i r hr; exact ⟨r, hr, h⟩
      · exact h.elim
    | false => exact h
  · exact h.elim

theorem finF_ok {pu : Bool} {bs : Nat} {rs : List SR} {R : D → Obs → Prop} {J : List Fr → St → Prop} (e : Exit) (s : St) (h : (finF pu bs rs e s).ok R J) : FinQ pu bs rs R e s := by
  cases e <;> first | exact endT_ok h | exact h.elim

theorem goT_ok {tb : Ctr} (htb : tb.OK P) {bs : Nat} {fin : Exit → St → Tr} {R : D → Obs → Prop} {J : List Fr → St → Prop} {Q : Exit → St → Prop} (hfin : ∀ e s, (fin e s).ok R J → Q e s) (hJ : ∀ K s, J K s → At P bs K s Q) :
    ∀ {n : Nat} {K : List Fr} {s : St}, (goT P tb bs fin n K s).ok R J → At P bs K s Q
  | 0, K, s, h => h.elim
  | n + 1, K, s, h => by
    rw [goT_succ] at h
    have up : ∀ {K' s'}, (goT P tb bs fin n K' s').ok R J → At P bs K' s' Q := fun h => goT_ok htb hfin hJ h
    match K, h with
    | [], h => exact ⟨1, hfin _ _ h⟩
    | .blk _ :: K, h => obtain ⟨m, hm⟩ := up h; exact ⟨m + 1, hm⟩
    | .sc c :: K, h =>
      cases c with
      | skip => obtain ⟨m, hm⟩ := up h; exact ⟨m + 1, hm⟩
      | ret => exact ⟨1, hfin _ _ h⟩
      | exit i =>
        simp only [goTStep] at h
        split at h
        · rename_i K' hp
          obtain ⟨m, hm⟩ := up h
          exact ⟨m + 1, by simp only [swF, hp]; exact hm⟩
        · rename_i hp
          exact ⟨1, by simp only [swF, hp]; exact hfin _ _ h⟩
      | reg ops =>
        simp only [goTStep] at h
        obtain ⟨s', h1, h2⟩ := opsT_ok htb h
        obtain ⟨m, hm⟩ := up h2
        exact ⟨m + 1, h1 _ hm⟩
      | drw pre ops =>
        simp only [goTStep] at h
        obtain ⟨es, s', h1, h2⟩ := caT_ok htb h
        split at h2
        · rename_i hd
          obtain ⟨m, hm⟩ := up h2
          exact ⟨m + 1, es, s', h1, hd, hm⟩
        · exact h2.elim
      | seq a b => obtain ⟨m, hm⟩ := up h; exact ⟨m + 1, hm⟩
      | cond x a b =>
        simp only [goTStep] at h
        split at h
        · rename_i t hx
          rcases brT_ok h with ⟨rfl, h⟩ | ⟨rfl, h⟩
          · obtain ⟨m, hm⟩ := up h
            exact ⟨m + 1, by simp only [swF, hx, if_true]; exact hm⟩
          · obtain ⟨m, hm⟩ := up h
            exact ⟨m + 1, by simp only [swF, hx]; exact hm⟩
        · exact h.elim
      | block id c => obtain ⟨m, hm⟩ := up h; exact ⟨m + 1, hm⟩
      | loop ts c =>
        obtain ⟨m, hm⟩ := hJ _ _ h
        exact ⟨m + 1, hm⟩
      | rangeF N g ps a b =>
        simp only [goTStep] at h
        split at h
        · rename_i f fa fc hg
          split at h
          · rename_i hc
            split at h
            · rename_i rt hrt
              obtain ⟨r, ob', hcall, hk⟩ := rtT_ok (htb.C _ _ _ _ _ hrt) h
              split at hk
              · rename_i st pend _ _ _ _ _ _ hl
                split at hk
                · exact hk.elim
                · rename_i hst
                  have fin : ∀ m, (match pend with
                      | none => swF P m bs K ⟨s.tm, eraseId (s.nx bs) (St.back ⟨s.tm, rngS P s (s.nx bs) N ps a b⟩ (s.nx bs + 1) (handN ⟨s.tm, rngS P s (s.nx bs) N ps a b⟩ [s.get g, .yld (s.nx bs)]) ob').ob⟩ Q
                      | some .ret => Q .ret ⟨s.tm, eraseId (s.nx bs) (St.back ⟨s.tm, rngS P s (s.nx bs) N ps a b⟩ (s.nx bs + 1) (handN ⟨s.tm, rngS P s (s.nx bs) N ps a b⟩ [s.get g, .yld (s.nx bs)]) ob').ob⟩
                      | some (.exit i) => (match popTo i K with
                        | some K' => swF P m bs K' ⟨s.tm, eraseId (s.nx bs) (St.back ⟨s.tm, rngS P s (s.nx bs) N ps a b⟩ (s.nx bs + 1) (handN ⟨s.tm, rngS P s (s.nx bs) N ps a b⟩ [s.get g, .yld (s.nx bs)]) ob').ob⟩ Q
                        | none => Q (.exit i) ⟨s.tm, eraseId (s.nx bs) (St.back ⟨s.tm, rngS P s (s.nx bs) N ps a b⟩ (s.nx bs + 1) (handN ⟨s.tm, rngS P s (s.nx bs) N ps a b⟩ [s.get g, .yld (s.nx bs)]) ob').ob⟩)
                      | _ => False) → At P bs (.sc (.rangeF N g ps a b) :: K) s Q := fun m hm => by
                    refine ⟨m + 1, _, _, nodupB_sound hc.1, fun i hi => handN_some (s := ⟨s.tm, rngS P s (s.nx bs) N ps a b⟩) i hi, ⟨f, fa, fc, hg, hc.2⟩, hcall, ?_⟩
                    rintro r0 ob0 ⟨rfl, rfl⟩
                    refine ⟨st, pend, _, _, _, _, _, _, hl, hst, ?_⟩
                    split at hm
                    · exact hm
                    · exact hm
                    · exact hm
                    · exact hm.elim
                  split at hk
                  · obtain ⟨m, hm⟩ := up hk
                    exact fin m hm
                  · exact fin 0 (hfin _ _ hk)
                  · split at hk
                    · rename_i K' hp
                      obtain ⟨m, hm⟩ := up hk
                      exact fin m (by simp only [hp]; exact hm)
                    · rename_i hp
                      exact fin 0 (by simp only [hp]; exact hfin _ _ hk)
                  · exact hk.elim
              · exact hk.elim
            · exact h.elim
          · exact h.elim
        · exact h.elim

/-- From a loop's head, by the tree. -/
theorem At.tree {tb : Ctr} (htb : tb.OK P) {pu : Bool} {bs : Nat} {rs : List SR} {R : D → Obs → Prop} {n : Nat} {K : List Fr} {s : St} {T : Tr} (e : goT P tb bs (finF pu bs rs) n K s = T)
    (h : T.ok R (fun K s => At P bs K s (FinQ pu bs rs R))) : At P bs K s (FinQ pu bs rs R) := goT_ok htb finF_ok (fun _ _ h => h) (e ▸ h)

theorem at_sw {bs : Nat} {sc : SC} {s : St} {Q : Exit → St → Prop} (h : At P bs [.sc sc] s Q) : sw P bs sc Q s := by
  obtain ⟨n, hn⟩ := h
  refine sw_mono (swF_sound n bs sc [] s Q hn) fun ex s1 ⟨m, _, hr⟩ => ?_
  cases ex <;> simp only [resF', popTo] at hr
  · cases m with
    | zero => cases hr
    | succ m => exact hr
  · exact hr
  · exact hr

/-- A PURE FUNCTION, BY ITS TREE. -/
theorem FnOK.tree [CodesOf P] (hdraw : DrawSound P) {f : FuncId} {N : Nat} {sc : SC} {rs : List SR} (hf : FnC P f N sc rs ∧ pureF P f = true) {tb : Ctr} (htb : tb.OK P) {n : Nat} {args : List D} {r : D} {T : Tr}
    (e : goT P tb 0 (finF true 0 rs) n [.sc sc] ⟨envOf 0 args, []⟩ = T) (h : T.ok (fun d _ => d = r) (fun K s => At P 0 K s (FinQ true 0 rs (fun d _ => d = r)))) (hlen : Nat.ble args.length N = true := by rfl) : FnOK P f args r := by
  have hlen := Nat.le_of_ble_eq_true hlen
  have hsw := at_sw (goT_ok htb finF_ok (fun _ _ h => h) (e ▸ h))
  refine FnOK.of_call hf.2 (CallL.fn hdraw hf.1 hf.2 (first := []) (caps := []) 0 (Nat.le_refl _) (by simpa using hlen) ?_)
  have conv : ∀ (s : St) (d : D), RetL 0 (RE true (fun d _ => d = r)) s d → RetL 0 (RetK r) s d := by
    rintro s d ⟨r', hr', rfl⟩
    unfold retE at hr'
    unfold RetL RetK
    split at hr'
    · rename_i id hid
      split at hr'
      · rename_i sz e es hl
        cases hr'
        exact .inl ⟨id, sz, e, es, hid, hl, rfl⟩
      · cases hr'
    · split at hr'
      · rename_i hclo
        cases hr'
        exact .inr ⟨hclo, rfl⟩
      · cases hr'
  rw [List.nil_append, List.append_nil]
  refine sw_mono hsw fun ex s1 hq => ?_
  cases ex <;> simp only [FinQ] at hq ⊢
  · obtain ⟨ds, hds, hr⟩ := hq; exact ⟨ds, hds, conv _ _ hr⟩
  · obtain ⟨ds, hds, hr⟩ := hq; exact ⟨ds, hds, conv _ _ hr⟩

/-- A CALL WITH OBJECTS, BY ITS TREE. -/
theorem CallL.tree [CodesOf P] (hdraw : DrawSound P) {f : FuncId} {N : Nat} {sc : SC} {rs : List SR} (hf : FnC P f N sc rs ∧ pureF P f = true) {tb : Ctr} (htb : tb.OK P) {n bs : Nat} {first args caps : List D} {ob : Obs} {R : D → Obs → Prop} {T : Tr}
    (e : goT P tb bs (finF false bs rs) n [.sc sc] ⟨envOf 0 (first ++ args ++ caps), ob⟩ = T) (h : T.ok R (fun K s => At P bs K s (FinQ false bs rs R))) (hlen : Nat.ble (first ++ args ++ caps).length N = true := by rfl) (hbs : Nat.ble (Obs.top ob) bs = true := by rfl) : CallL P (.func (.func f) first caps) args ob R := by
  have hlen := Nat.le_of_ble_eq_true hlen
  have hbs := Nat.le_of_ble_eq_true hbs
  have hsw := at_sw (goT_ok htb finF_ok (fun _ _ h => h) (e ▸ h))
  refine CallL.reordG (CallL.fn hdraw hf.1 hf.2 bs hbs hlen ?_)
  refine sw_mono hsw fun ex s1 hq => ?_
  cases ex <;> simp only [FinQ, RE] at hq ⊢ <;> exact hq
end

/-- A round's end: what is handed back to the one who yields. -/
def finY (k rid N : Nat) (ps : Array Tmp) (a b : SC) (keys : List Nat) (ds : List D) : Exit → St → Tr := fun e s => match pendE e with
  | some pend => if (lk s.ob rid).isNone = true then .ret (.bool pend.isNone) (sortO ((rid, .gen (.loop (if pend.isNone then .ready else .done) pend ps a b N keys) ds) :: (s.canon k []).ob)) else .bad
  | none => .bad
/-- The two parts of a loop's body over a function. -/
def yldT (P : Program) (tb : Ctr) (k rid N : Nat) (ps : Array Tmp) (a b : SC) (keys : List Nat) (ds : List D) (n : Nat) (s : St) : Tr :=
  goT P tb k (fun e s => match e with
    | .normal => goT P tb k (finY k rid N ps a b keys ds) n [.sc b] s
    | _ => .bad) n [.sc a] s

section
variable {P : Program}
/-- A CALL OF yield, BY ITS TREE. -/
theorem CallL.yldT [CodesOf P] (hdraw : DrawSound P) {tb : Ctr} (htb : tb.OK P) {n k rid N : Nat} {ps : Array Tmp} {a b : SC} {keys : List Nat} {ds args : List D} {ob : Obs} {R : D → Obs → Prop} {T : Tr}
    (hrec : lk ob rid = some (.gen (.loop .ready none ps a b N keys) ds)) (e : Sx.yldT P tb k rid N ps a b keys ds n ⟨putP (ps.toList.zip args) (keys.zip ds), eraseId rid ob⟩ = T)
    (h : T.ok R (fun _ _ => False)) (hk : Nat.ble (Obs.top ob) k = true := by rfl) (hps : ps.size = args.length := by rfl) (hpN : (ps.toList.all fun t => decide (t < N)) = true := by rfl) : CallL P (.yld rid) args ob R := by
  have hk := Nat.le_of_ble_eq_true hk
  refine CallL.reordG (CallL.yld hdraw k hk hrec hps (fun t ht => by simpa using List.all_eq_true.1 hpN t ht) ?_)
  have h' : (Sx.yldT P tb k rid N ps a b keys ds n ⟨putP (ps.toList.zip args) (keys.zip ds), eraseId rid ob⟩).ok R (fun _ _ => False) := e ▸ h
  unfold Sx.yldT at h'
  refine at_sw (goT_ok htb (fun e s hf => ?_) (fun _ _ h => h.elim) h')
  cases e <;> try exact hf.elim
  refine at_sw (goT_ok htb (fun e s hf => ?_) (fun _ _ h => h.elim) hf)
  unfold finY at hf
  split at hf
  · rename_i pend hpe
    split at hf
    · rename_i hn
      refine ⟨by simpa using hn, ?_⟩
      cases e <;> simp only [pendE, Option.some.injEq, reduceCtorEq] at hpe <;> (subst hpe; exact hf)
    · exact hf.elim
  · exact hf.elim
end

/-- The heads of the loops of a text, in their order. -/
def cuts : SC → List Fr → List (List Fr)
  | .seq a b, K => cuts a (.sc b :: K) ++ cuts b K
  | .cond _ a b, K => cuts a K ++ cuts b K
  | .block id c, K => cuts c (.blk id :: K)
  | .loop ts c, K => (.sc c :: .sc (.loop ts c) :: K) :: cuts c (.sc (.loop ts c) :: K)
  | _, _ => []
def cut (sc : SC) (n : Nat) : List Fr := (cuts sc []).getD n []
/-- The bodies of the loops over functions. -/
def SC.rngs : SC → List (SC × SC)
  | .seq a b => a.rngs ++ b.rngs
  | .cond _ a b => a.rngs ++ b.rngs
  | .block _ c => c.rngs
  | .loop _ c => c.rngs
  | .rangeF _ _ _ a b => (a, b) :: (a.rngs ++ b.rngs)
  | _ => []
def SC.rngA (sc : SC) (n : Nat) : SC := (sc.rngs.getD n (.skip, .skip)).1
def SC.rngB (sc : SC) (n : Nat) : SC := (sc.rngs.getD n (.skip, .skip)).2
end Go.Sx

/- Plain laws on bytes and lists. -/
namespace Go.Sx
/-- Where the run of bytes that pass, begun at i, ends. -/
def runTo (p : UInt8 → Bool) (s : List UInt8) (i : Nat) : Nat := i + ((s.drop i).takeWhile p).length

theorem runTo_step {p : UInt8 → Bool} {s : List UInt8} {i : Nat} (h : i < s.length) (hp : p (s.getD i 0) = true) : runTo p s i = runTo p s (i + 1) := by
  unfold runTo
  rw [List.drop_eq_getElem_cons h, List.takeWhile_cons]
  rw [List.getD_eq_getElem?_getD, List.getElem?_eq_getElem h, Option.getD_some] at hp
  rw [if_pos hp, List.length_cons]
  omega
theorem runTo_stop {p : UInt8 → Bool} {s : List UInt8} {i : Nat} (h : i < s.length) (hp : p (s.getD i 0) = false) : runTo p s i = i := by
  unfold runTo
  rw [List.drop_eq_getElem_cons h, List.takeWhile_cons]
  rw [List.getD_eq_getElem?_getD, List.getElem?_eq_getElem h, Option.getD_some] at hp
  rw [if_neg (by simp [hp])]
  simp
theorem runTo_end {p : UInt8 → Bool} {s : List UInt8} {i : Nat} (h : s.length ≤ i) : runTo p s i = i := by
  unfold runTo
  rw [List.drop_eq_nil_of_le h]; simp
theorem runTo_le (p : UInt8 → Bool) (s : List UInt8) (i : Nat) : i ≤ runTo p s i := by unfold runTo; omega
theorem runTo_len {p : UInt8 → Bool} {s : List UInt8} {i : Nat} (h : i ≤ s.length) : runTo p s i ≤ s.length := by
  unfold runTo
  have := (List.takeWhile_sublist (l := s.drop i) p).length_le
  rw [List.length_drop] at this
  omega
theorem runTo_text (p : UInt8 → Bool) (s : List UInt8) (i : Nat) : (s.take (runTo p s i)).drop i = (s.drop i).takeWhile p := by
  unfold runTo
  rw [List.drop_take, Nat.add_sub_cancel_left]
  exact (List.prefix_iff_eq_take.1 (List.takeWhile_prefix p)).symm
theorem byte_lt (s : List UInt8) (i : Nat) : 0 ≤ ((s.getD i 0).toNat : Int) ∧ ((s.getD i 0).toNat : Int) < 256 := by
  have := (s.getD i 0).toNat_lt
  omega
end Go.Sx

/- The lexer, plainly. -/
namespace Go.Sx.Lx
open Go.Sx

def isLow (b : UInt8) : Bool := decide (97 ≤ b.toNat) && decide (b.toNat ≤ 122)
def isUp (b : UInt8) : Bool := decide (65 ≤ b.toNat) && decide (b.toNat ≤ 90)
def isDig (b : UInt8) : Bool := decide (48 ≤ b.toNat) && decide (b.toNat ≤ 57)
def isLet (b : UInt8) : Bool := isLow b || isUp b
def isUnd (b : UInt8) : Bool := b == 95
def isName (b : UInt8) : Bool := isLet b || isDig b || isUnd b
def isBlank (b : UInt8) : Bool := b == 32 || b == 9 || b == 10 || b == 13
def inLine (b : UInt8) : Bool := !(b == 10)

/-- How many bytes of blanks and comments; c: within a comment. -/
def skp : Bool → List UInt8 → Nat
  | _, [] => 0
  | false, b :: r => if isBlank b then 1 + skp false r else if b == 37 then 1 + skp true r else 0
  | true, b :: r => if b == 10 then 1 + skp false r else 1 + skp true r

theorem skp_le : ∀ (c : Bool) (l : List UInt8), skp c l ≤ l.length
  | _, [] => by simp [skp]
  | false, b :: r => by
    simp only [skp]
    have h1 := skp_le false r
    have h2 := skp_le true r
    repeat' split
    all_goals simp only [List.length_cons]; omega
  | true, b :: r => by
    simp only [skp]
    have h1 := skp_le false r
    have h2 := skp_le true r
    repeat' split
    all_goals simp only [List.length_cons]; omega

theorem skp_blank : ∀ l : List UInt8, skp false l = (l.takeWhile isBlank).length + skp false (l.drop (l.takeWhile isBlank).length)
  | [] => rfl
  | b :: r => by
    cases hb : isBlank b with
    | true =>
      rw [List.takeWhile_cons, if_pos hb]
      simp only [List.length_cons, List.drop_succ_cons]
      rw [show skp false (b :: r) = 1 + skp false r by simp [skp, hb], skp_blank r]
      omega
    | false => rw [List.takeWhile_cons, if_neg (by simp [hb])]; simp

theorem skp_line : ∀ l : List UInt8, skp true l = (l.takeWhile inLine).length + skp false (l.drop (l.takeWhile inLine).length)
  | [] => rfl
  | b :: r => by
    cases hb : inLine b with
    | true =>
      rw [List.takeWhile_cons, if_pos hb]
      simp only [List.length_cons, List.drop_succ_cons]
      have h : (b == 10) = false := by simpa [inLine] using hb
      rw [show skp true (b :: r) = 1 + skp true r by simp [skp, h], skp_line r]
      omega
    | false =>
      rw [List.takeWhile_cons, if_neg (by simp [hb])]
      have h : b = 10 := by simpa [inLine] using hb
      subst h
      simp [skp, isBlank]

theorem skp_cmt {l : List UInt8} (h : l.head? = some 37) : skp false l = (l.takeWhile inLine).length + skp false (l.drop (l.takeWhile inLine).length) := by
  cases l with
  | nil => cases h
  | cons b r =>
    simp only [List.head?_cons, Option.some.injEq] at h
    subst h
    rw [show skp false (37 :: r) = 1 + skp true r by simp [skp, isBlank], List.takeWhile_cons, if_pos (by decide), skp_line r]
    simp only [List.length_cons, List.drop_succ_cons]
    omega

theorem skp_stop {l : List UInt8} (h : ∀ b, l.head? = some b → isBlank b = false ∧ b ≠ 37) : skp false l = 0 := by
  cases l with
  | nil => rfl
  | cons b r =>
    obtain ⟨h1, h2⟩ := h b rfl
    simp [skp, h1, h2]

/-- Where the blanks and comments begun at i end. -/
def skipTo (s : List UInt8) (i : Nat) : Nat := i + skp false (s.drop i)
theorem skipTo_len {s : List UInt8} {i : Nat} (h : i ≤ s.length) : skipTo s i ≤ s.length := by
  have := skp_le false (s.drop i)
  rw [List.length_drop] at this
  unfold skipTo; omega
theorem skipTo_blank (s : List UInt8) (i : Nat) : skipTo s i = skipTo s (runTo isBlank s i) := by
  unfold skipTo runTo
  rw [skp_blank (s.drop i), List.drop_drop]
  omega
theorem skipTo_cmt {s : List UInt8} {i : Nat} (h : i < s.length) (hb : s.getD i 0 = 37) : skipTo s i = skipTo s (runTo inLine s i) := by
  unfold skipTo runTo
  rw [List.getD_eq_getElem?_getD, List.getElem?_eq_getElem h, Option.getD_some] at hb
  rw [skp_cmt (by rw [List.head?_drop, List.getElem?_eq_getElem h, hb]), List.drop_drop]
  omega
theorem runTo_not {p : UInt8 → Bool} {s : List UInt8} {i : Nat} (h : runTo p s i < s.length) : p (s.getD (runTo p s i) 0) = false := by
  suffices ∀ (l : List UInt8), (l.takeWhile p).length < l.length → p (l.getD (l.takeWhile p).length 0) = false by
    have h2 := this (s.drop i) (by unfold runTo at h; rw [List.length_drop]; omega)
    unfold runTo
    simpa [List.getD, List.getElem?_drop] using h2
  intro l
  induction l with
  | nil => intro h; simp at h
  | cons b r ih =>
    intro h
    rw [List.takeWhile_cons] at h ⊢
    split
    · rename_i hb
      rw [if_pos hb] at h
      simpa using ih (by simpa using h)
    · rename_i hb; simpa using hb
theorem skipTo_stop {s : List UInt8} {i : Nat} (h : runTo isBlank s i = s.length ∨ s.getD (runTo isBlank s i) 0 ≠ 37) (hi : i ≤ s.length) : skipTo s i = runTo isBlank s i := by
  rw [skipTo_blank]
  have hl := runTo_len (p := isBlank) hi
  unfold skipTo
  rw [skp_stop]
  · omega
  · intro b hb
    rw [List.head?_drop] at hb
    obtain ⟨hlt, hbe⟩ := List.getElem?_eq_some_iff.1 hb
    have hg : s.getD (runTo isBlank s i) 0 = b := by rw [List.getD_eq_getElem?_getD, hb]; rfl
    refine ⟨?_, ?_⟩
    · have := runTo_not (p := isBlank) hlt
      rwa [hg] at this
    · rcases h with h | h
      · omega
      · rwa [hg] at h
end Go.Sx.Lx
namespace Go.Sx.Lx
/-- A name whose first byte behind the underscores passes. -/
def wordB (first : UInt8 → Bool) (s : List UInt8) : Bool := match s.dropWhile isUnd with
  | [] => false
  | b :: r => first b && (b :: r).all isName && decide (s.length ≤ 32)
def notS : List UInt8 := [110, 111, 116]
def symbolB (s : List UInt8) : Bool := wordB isLow s && decide (s ≠ notS)
def variableB (s : List UInt8) : Bool := wordB isUp s || (match s with
  | 95 :: r => r.all isDig && decide (s.length ≤ 32)
  | _ => false)
end Go.Sx.Lx
namespace Go.Sx
/-- Texts as cells. -/
def strC (l : List (List UInt8)) : List (List D) := l.map fun t => [D.str t]
theorem strC_get {l : List (List UInt8)} {i : Nat} (h : i < l.length) : (strC l)[i]? = some [D.str (l.getD i [])] := by
  unfold strC
  rw [List.getElem?_map, List.getElem?_eq_getElem h]
  simp [List.getD, h]
theorem strC_len (l : List (List UInt8)) : (strC l).length = l.length := by simp [strC]
/-- Where a text stands, counted from i. -/
def idxS (t : List UInt8) : List (List UInt8) → Int → Int
  | [], _ => -1
  | x :: r, i => if t = x then i else idxS t r (i + 1)
theorem idxS_mem (t : List UInt8) : ∀ (l : List (List UInt8)) (i : Int), 0 ≤ i → (0 ≤ idxS t l i ↔ t ∈ l)
  | [], i, h => by simp [idxS]
  | x :: r, i, h => by
    simp only [idxS, List.mem_cons]
    split
    · rename_i e; simp [e, h]
    · rename_i e; rw [idxS_mem t r (i + 1) (by omega)]; simp [e]
theorem drop_getD {α : Type} {l : List α} {d : α} {i : Nat} (h : i < l.length) : l.drop i = l.getD i d :: l.drop (i + 1) := by
  rw [List.drop_eq_getElem_cons h]; simp [List.getD, h]
end Go.Sx
namespace Go.Sx.Lx
/-- The signs; longer ones stand before their beginnings. -/
def signL : List (List UInt8) := [[58, 45], [58, 126], [58], [46, 46], [46], [44], [59], [124], [40], [41], [123], [125], [91], [93], [61], [33, 61], [60, 61], [62, 61], [60], [62], [43], [45], [42], [47], [92], [64]]
/-- The sign with which a text begins. -/
def signOf (s : List UInt8) : List UInt8 := (signL.find? (·.isPrefixOf s)).getD []
end Go.Sx.Lx
namespace Go.Sx.Lx
/-- The kind of a word, the error. -/
def wordK (s : List UInt8) : Int × Int := if s = notS then (4, 0) else if symbolB s = true then (1, 0) else if variableB s = true then (2, 0) else (0, 31)
def dirs : List (List UInt8) := [[35, 99, 111, 110, 115, 116], [35, 115, 104, 111, 119], [35, 109, 105, 110, 105, 109, 105, 122, 101], [35, 99, 111, 117, 110, 116], [35, 115, 117, 109]]
/-- A number's error. -/
def numE (s : List UInt8) : Int := match Lib.atoiAll s with
  | .ok n => if 2147483647 < n then 32 else if Lib.itoa n = s then 0 else 32
  | _ => 32
/-- A token's kind, its text, the error; of a text that is not empty. -/
def tok (s : List UInt8) : Int × List UInt8 × Int := match s with
  | [] => (0, [], 0)
  | b :: r =>
    if isLet b || isUnd b then ((wordK (s.takeWhile isName)).1, s.takeWhile isName, (wordK (s.takeWhile isName)).2)
    else if isDig b then (3, s.takeWhile isDig, numE (s.takeWhile isDig))
    else if b == 35 then (5, 35 :: r.takeWhile isLet, if 35 :: r.takeWhile isLet ∈ dirs then 0 else 31)
    else (6, signOf s, if signOf s = [] then 30 else 0)
end Go.Sx.Lx
namespace Go.Sx.Lx
/-- A token: its kind, its text, its offset. -/
abbrev Tk := Int × List UInt8 × Int
def tokC (t : Tk) : List D := [.int .u8 t.1, .str t.2.1, .int .i64 t.2.2]
theorem takeWhile_pos {p : UInt8 → Bool} {b : UInt8} {r : List UInt8} (h : p b = true) : 0 < ((b :: r).takeWhile p).length := by
  rw [List.takeWhile_cons, if_pos h]; simp
theorem wordK_nil : wordK [] = (0, 31) := by decide
theorem tok_pos {l : List UInt8} (hl : l ≠ []) (h : (tok l).2.2 = 0) : 0 < (tok l).2.1.length := by
  cases l with
  | nil => exact absurd rfl hl
  | cons b r =>
    unfold tok at h ⊢
    simp only at h ⊢
    split
    · rename_i hb; exact takeWhile_pos (by simp only [isName]; simp only [Bool.or_eq_true] at hb ⊢; rcases hb with h | h <;> simp [h])
    split
    · rename_i hb; exact takeWhile_pos hb
    split
    · simp
    · rename_i h1 h2 h3
      rw [if_neg h1, if_neg h2, if_neg h3] at h
      simp only at h
      by_cases hs : signOf (b :: r) = []
      · rw [if_pos hs] at h; cases h
      · exact List.length_pos_iff.2 hs
theorem tok_len (l : List UInt8) : (tok l).2.1.length ≤ l.length := by
  cases l with
  | nil => simp [tok]
  | cons b r =>
    unfold tok
    simp only
    split
    · exact (List.takeWhile_sublist _).length_le
    split
    · exact (List.takeWhile_sublist _).length_le
    split
    · simpa using (List.takeWhile_sublist (l := r) isLet).length_le
    · simp only [signOf]
      cases hf : signL.find? (·.isPrefixOf (b :: r)) with
      | none => simp
      | some s =>
        have := List.find?_some hf
        exact (List.isPrefixOf_iff_prefix.1 this).length_le
/-- The tokens of a text that begins with one, or is empty; an error and its offset; where it ends. -/
def toksF : Nat → Nat → List UInt8 → List Tk × Option (Nat × Int) × Nat
  | 0, o, _ => ([], none, o)
  | _ + 1, o, [] => ([], none, o)
  | f + 1, o, b :: r =>
    if (tok (b :: r)).2.2 = 0 then
      let n := (tok (b :: r)).2.1.length
      let k := skp false ((b :: r).drop n)
      let q := toksF f (o + n + k) ((b :: r).drop (n + k))
      (((tok (b :: r)).1, (tok (b :: r)).2.1, (o : Int)) :: q.1, q.2)
    else ([], some (o, (tok (b :: r)).2.2), o + (tok (b :: r)).2.1.length)
/-- Lex: the tokens, the error's offset, the error. -/
def lexR (s : List UInt8) : List Tk × Int × Int :=
  if 32768 < s.length then ([], 0, 3) else
  match toksF (s.length + 1) (skp false s) (s.drop (skp false s)) with
  | (_, some (a, e), _) => ([], a, e)
  | (l, none, _) => (l, 0, 0)
end Go.Sx.Lx
namespace Go.Sx.Lx
def deT : List D → Tk
  | [.int _ k, .str t, .int _ a] => (k, t, a)
  | _ => (0, [], 0)
theorem map_deT (l : List Tk) : (l.map tokC).map deT = l := by
  rw [List.map_map]
  exact List.map_id'' (fun _ => rfl) l
theorem tokC_get {l : List Tk} {i : Nat} (h : i < l.length) : (l.map tokC)[i]? = some (tokC (l.getD i default)) := by
  rw [List.getElem?_map, List.getElem?_eq_getElem h]
  simp [List.getD, h]
/-- Tokens alike but for their offsets. -/
def alikeB : List Tk → List Tk → Bool
  | [], [] => true
  | a :: r, b :: q => decide (a.1 = b.1) && decide (a.2.1 = b.2.1) && alikeB r q
  | _, _ => false
theorem alikeB_iff : ∀ (l k : List Tk), alikeB l k = true ↔ l.map (fun t => (t.1, t.2.1)) = k.map (fun t => (t.1, t.2.1))
  | [], [] => by simp [alikeB]
  | a :: r, b :: q => by
    simp only [alikeB, Bool.and_eq_true, decide_eq_true_eq, alikeB_iff r q, List.map_cons, List.cons.injEq, Prod.mk.injEq]
  | [], b :: q => by simp [alikeB]
  | a :: r, [] => by simp [alikeB]
theorem alikeB_len : ∀ (l k : List Tk), l.length ≠ k.length → alikeB l k = false
  | [], [], h => absurd rfl h
  | a :: r, b :: q, h => by
    simp only [alikeB, alikeB_len r q (fun he => h (by simp [he])), Bool.and_false]
  | [], b :: q, _ => rfl
  | a :: r, [], _ => rfl
/-- Blanks and comments alone; c: within a comment. -/
def emptyB : Bool → List UInt8 → Bool
  | _, [] => true
  | c, b :: r => if b = 10 then emptyB false r else if c = true then emptyB true r else if b = 37 then emptyB true r else if b ≠ 32 ∧ b ≠ 9 ∧ b ≠ 13 then false else emptyB false r
end Go.Sx.Lx
namespace Go.Sx.Lx
def pickG (n m : Int) : Int := if n.tmod m < 0 then n.tmod m + m else n.tmod m
end Go.Sx.Lx

/- Laws of the lexer. -/
namespace Go.Sx.Lx
open Go.Sx

/-- A byte that ends every token. -/
def isSep (c : UInt8) : Bool := isBlank c || c == 37

theorem sep_all : (List.range 256).all (fun n => !(isSep (UInt8.ofNat n)) || (!(isName (UInt8.ofNat n)) && !(isDig (UInt8.ofNat n)) && !(isLet (UInt8.ofNat n)) && signL.all fun s => !(s.contains (UInt8.ofNat n)))) = true := by decide +kernel
theorem sep_spec {c : UInt8} (h : isSep c = true) : isName c = false ∧ isDig c = false ∧ isLet c = false ∧ ∀ s ∈ signL, c ∉ s := by
  have := List.all_eq_true.1 sep_all c.toNat (List.mem_range.2 c.toNat_lt)
  simp only [UInt8.ofNat_toNat, h, Bool.not_true, Bool.false_or, Bool.and_eq_true, Bool.not_eq_true', List.all_eq_true] at this
  refine ⟨this.1.1.1, this.1.1.2, this.1.2, fun s hs hm => ?_⟩
  have h1 := this.2 s hs
  rw [List.contains_iff_mem.2 hm] at h1
  cases h1

theorem takeWhile_sep {p : UInt8 → Bool} {c : UInt8} (h : p c = false) (r : List UInt8) : ∀ l : List UInt8, (l ++ c :: r).takeWhile p = l.takeWhile p
  | [] => by simp [List.takeWhile_cons, h]
  | b :: l => by
    simp only [List.cons_append, List.takeWhile_cons]
    split
    · rw [takeWhile_sep h r l]
    · rfl
theorem prefix_sep {c : UInt8} (r : List UInt8) : ∀ (s l : List UInt8), c ∉ s → s.isPrefixOf (l ++ c :: r) = s.isPrefixOf l
  | [], l, _ => by cases l <;> rfl
  | x :: s, [], h => by
    have : (x == c) = false := by
      cases hx : x == c with
      | false => rfl
      | true => rw [eq_of_beq hx] at h; simp at h
    simp [List.isPrefixOf, this]
  | x :: s, b :: l, h => by
    simp only [List.cons_append, List.isPrefixOf]
    rw [prefix_sep r s l (fun hm => h (List.mem_cons_of_mem _ hm))]
theorem find_congr {α : Type} {p q : α → Bool} : ∀ {l : List α}, (∀ x ∈ l, p x = q x) → l.find? p = l.find? q
  | [], _ => rfl
  | x :: l, h => by
    rw [List.find?_cons, List.find?_cons, h x (List.mem_cons_self ..), find_congr fun y hy => h y (List.mem_cons_of_mem _ hy)]
theorem signOf_sep {c : UInt8} (hc : isSep c = true) (l r : List UInt8) : signOf (l ++ c :: r) = signOf l := by
  unfold signOf
  rw [find_congr fun s hs => prefix_sep r s l ((sep_spec hc).2.2.2 s hs)]
/-- What follows behind a separator does not matter. -/
theorem tok_sep {c : UInt8} (hc : isSep c = true) {l : List UInt8} (hl : l ≠ []) (r : List UInt8) : tok (l ++ c :: r) = tok l := by
  obtain ⟨h1, h2, h3, _⟩ := sep_spec hc
  cases l with
  | nil => exact absurd rfl hl
  | cons b l =>
    have e1 : (b :: l ++ c :: r).takeWhile isName = (b :: l).takeWhile isName := takeWhile_sep h1 r (b :: l)
    have e2 : (b :: l ++ c :: r).takeWhile isDig = (b :: l).takeWhile isDig := takeWhile_sep h2 r (b :: l)
    have e3 : (l ++ c :: r).takeWhile isLet = l.takeWhile isLet := takeWhile_sep h3 r l
    have e4 : signOf (b :: l ++ c :: r) = signOf (b :: l) := signOf_sep hc (b :: l) r
    simp only [List.cons_append] at e1 e2 e3 e4
    simp only [tok, List.cons_append, e1, e2, e3, e4]

theorem skp_sep (b : List UInt8) : ∀ (c : Bool) (l : List UInt8), skp c (l ++ 10 :: b) = if skp c l = l.length then l.length + 1 + skp false b else skp c l
  | false, [] => by simp [skp, isBlank]
  | true, [] => by simp [skp]
  | false, x :: l => by
    simp only [List.cons_append, skp]
    have h1 := skp_sep b false l
    have h2 := skp_sep b true l
    split
    · rw [h1]; split
      · rename_i h; rw [if_pos (by rw [List.length_cons]; omega), List.length_cons]; omega
      · rename_i h; rw [if_neg (by rw [List.length_cons]; omega)]
    split
    · rw [h2]; split
      · rename_i h; rw [if_pos (by rw [List.length_cons]; omega), List.length_cons]; omega
      · rename_i h; rw [if_neg (by rw [List.length_cons]; omega)]
    · rw [if_neg (by simp)]
  | true, x :: l => by
    simp only [List.cons_append, skp]
    have h1 := skp_sep b false l
    have h2 := skp_sep b true l
    split
    · rw [h1]; split
      · rename_i h; rw [if_pos (by rw [List.length_cons]; omega), List.length_cons]; omega
      · rename_i h; rw [if_neg (by rw [List.length_cons]; omega)]
    · rw [h2]; split
      · rename_i h; rw [if_pos (by rw [List.length_cons]; omega), List.length_cons]; omega
      · rename_i h; rw [if_neg (by rw [List.length_cons]; omega)]

/-- More fuel does not matter. -/
theorem toksF_fuel : ∀ (f g o : Nat) (l : List UInt8), l.length < f → l.length < g → toksF f o l = toksF g o l := by
  intro f
  induction f with
  | zero => intro g o l h; omega
  | succ f ih =>
    intro g o l hf hg
    cases g with
    | zero => omega
    | succ g =>
      cases l with
      | nil => rfl
      | cons b r =>
        simp only [toksF]
        split
        · rename_i he
          have hp := tok_pos (l := b :: r) (by simp) he
          have hl : ((b :: r).drop ((tok (b :: r)).2.1.length + skp false ((b :: r).drop (tok (b :: r)).2.1.length))).length < r.length + 1 := by
            rw [List.length_drop, List.length_cons]; omega
          rw [List.length_cons] at hf hg
          rw [ih g _ _ (by omega) (by omega)]
        · rfl
/-- The run that begins with blanks and comments. -/
def run (o : Nat) (l : List UInt8) : List Tk × Option (Nat × Int) × Nat := toksF (l.length + 1) (o + skp false l) (l.drop (skp false l))
theorem run_end {o : Nat} {l : List UInt8} (h : skp false l = l.length) : run o l = ([], none, o + l.length) := by
  unfold run
  rw [h, List.drop_length]; rfl
theorem run_go {o : Nat} {l : List UInt8} (h : skp false l ≠ l.length) : run o l =
    if (tok (l.drop (skp false l))).2.2 = 0 then
      (((tok (l.drop (skp false l))).1, (tok (l.drop (skp false l))).2.1, ((o + skp false l : Nat) : Int)) :: (run (o + skp false l + (tok (l.drop (skp false l))).2.1.length) (l.drop (skp false l + (tok (l.drop (skp false l))).2.1.length))).1,
        (run (o + skp false l + (tok (l.drop (skp false l))).2.1.length) (l.drop (skp false l + (tok (l.drop (skp false l))).2.1.length))).2)
    else ([], some (o + skp false l, (tok (l.drop (skp false l))).2.2), o + skp false l + (tok (l.drop (skp false l))).2.1.length) := by
  have hk := skp_le false l
  have hne : l.drop (skp false l) ≠ [] := fun he => by
    have := congrArg List.length he
    rw [List.length_drop, List.length_nil] at this
    omega
  unfold run
  generalize hd : l.drop (skp false l) = d at hne ⊢
  have hdl : d.length ≤ l.length := by rw [← hd, List.length_drop]; omega
  cases d with
  | nil => exact absurd rfl hne
  | cons b r =>
    have hl : 0 < l.length := by rw [List.length_cons] at hdl; omega
    rw [List.length_cons] at hdl
    cases hlen : l.length with
    | zero => omega
    | succ m =>
      simp only [toksF]
      split
      · rename_i he
        have hp := tok_pos (l := b :: r) (by simp) he
        have e : l.drop (skp false l + (tok (b :: r)).2.1.length) = (b :: r).drop (tok (b :: r)).2.1.length := by rw [← hd, List.drop_drop]
        rw [e, List.drop_drop]
        have hl2 : ((b :: r).drop ((tok (b :: r)).2.1.length + skp false ((b :: r).drop (tok (b :: r)).2.1.length))).length < r.length + 1 := by
          rw [List.length_drop, List.length_cons]; omega
        have hl3 : ((b :: r).drop ((tok (b :: r)).2.1.length + skp false ((b :: r).drop (tok (b :: r)).2.1.length))).length < ((b :: r).drop (tok (b :: r)).2.1.length).length + 1 := by
          simp only [List.length_drop]; omega
        rw [toksF_fuel (m + 1) (((b :: r).drop (tok (b :: r)).2.1.length).length + 1) _ _ (by omega) hl3]
      · rfl

theorem drop_app {l r : List UInt8} {n : Nat} (h : n ≤ l.length) : (l ++ r).drop n = l.drop n ++ r := by
  rw [List.drop_append, show n - l.length = 0 by omega, List.drop_zero]

/-- Two sources with a newline between. -/
theorem run_split (b : List UInt8) : ∀ (m : Nat) (l : List UInt8) (o : Nat), l.length < m → run o (l ++ 10 :: b) =
    match run o l with
    | (ts, some e, p) => (ts, some e, p)
    | (ts, none, _) => (ts ++ (run (o + l.length + 1) b).1, (run (o + l.length + 1) b).2) := by
  intro m
  induction m with
  | zero => intro l o h; omega
  | succ m ih =>
    intro l o hm
    have hk := skp_le false l
    have hs := skp_sep b false l
    by_cases h : skp false l = l.length
    · rw [run_end h]
      rw [if_pos h] at hs
      simp only [List.nil_append]
      unfold run
      rw [hs]
      have e : (l ++ 10 :: b).drop (l.length + 1 + skp false b) = b.drop (skp false b) := by
        rw [List.drop_append, List.drop_eq_nil_of_le (by omega), List.nil_append, show l.length + 1 + skp false b - l.length = skp false b + 1 by omega, List.drop_succ_cons]
      have hlb : (b.drop (skp false b)).length ≤ b.length := by rw [List.length_drop]; omega
      rw [e, toksF_fuel ((l ++ 10 :: b).length + 1) (b.length + 1) _ _ (by rw [List.length_append, List.length_cons]; omega) (by omega)]
      rw [show o + (l.length + 1 + skp false b) = o + l.length + 1 + skp false b by omega]
    · rw [if_neg h] at hs
      have h' : skp false (l ++ 10 :: b) ≠ (l ++ 10 :: b).length := by rw [hs, List.length_append, List.length_cons]; omega
      have hd : (l ++ 10 :: b).drop (skp false (l ++ 10 :: b)) = l.drop (skp false l) ++ 10 :: b := by rw [hs]; exact drop_app hk
      have hne : l.drop (skp false l) ≠ [] := fun he => by
        have := congrArg List.length he
        rw [List.length_drop, List.length_nil] at this
        omega
      rw [run_go h', run_go h, hd, tok_sep (by decide) hne b, hs]
      have htl := tok_len (l.drop (skp false l))
      rw [List.length_drop] at htl
      have e2 : (l ++ 10 :: b).drop (skp false l + (tok (l.drop (skp false l))).2.1.length) = l.drop (skp false l + (tok (l.drop (skp false l))).2.1.length) ++ 10 :: b := drop_app (by omega)
      rw [e2]
      by_cases he : (tok (l.drop (skp false l))).2.2 = 0
      · rw [if_pos he, if_pos he]
        have hp := tok_pos hne he
        rw [ih (l.drop (skp false l + (tok (l.drop (skp false l))).2.1.length)) _ (by rw [List.length_drop]; omega)]
        have el : o + skp false l + (tok (l.drop (skp false l))).2.1.length + (l.drop (skp false l + (tok (l.drop (skp false l))).2.1.length)).length + 1 = o + l.length + 1 := by
          rw [List.length_drop]; omega
        rw [el]
        rcases run (o + skp false l + (tok (l.drop (skp false l))).2.1.length) (l.drop (skp false l + (tok (l.drop (skp false l))).2.1.length)) with ⟨ts, _ | e, p⟩ <;> rfl
      · rw [if_neg he, if_neg he]

/-- A run begun later. -/
def shift (d : Nat) (r : List Tk × Option (Nat × Int) × Nat) : List Tk × Option (Nat × Int) × Nat := (r.1.map fun t => (t.1, t.2.1, t.2.2 + d), r.2.1.map fun e => (e.1 + d, e.2), r.2.2 + d)
theorem run_shift (d : Nat) : ∀ (m : Nat) (l : List UInt8) (o : Nat), l.length < m → run (o + d) l = shift d (run o l) := by
  intro m
  induction m with
  | zero => intro l o h; omega
  | succ m ih =>
    intro l o hm
    have hk := skp_le false l
    by_cases h : skp false l = l.length
    · rw [run_end h, run_end h]
      simp only [shift, List.map_nil, Option.map_none]
      rw [show o + d + l.length = o + l.length + d by omega]
    · have hne : l.drop (skp false l) ≠ [] := fun he => by
        have := congrArg List.length he
        rw [List.length_drop, List.length_nil] at this
        omega
      rw [run_go h, run_go h]
      by_cases he : (tok (l.drop (skp false l))).2.2 = 0
      · rw [if_pos he, if_pos he]
        have hp := tok_pos hne he
        rw [show o + d + skp false l + (tok (l.drop (skp false l))).2.1.length = o + skp false l + (tok (l.drop (skp false l))).2.1.length + d by omega]
        rw [ih _ _ (by rw [List.length_drop]; omega)]
        simp only [shift, List.map_cons]
        rw [show ((o + d + skp false l : Nat) : Int) = ((o + skp false l : Nat) : Int) + d by omega]
      · rw [if_neg he, if_neg he]
        simp only [shift, List.map_nil, Option.map_some]
        rw [show o + d + skp false l = o + skp false l + d by omega, show o + skp false l + d + (tok (l.drop (skp false l))).2.1.length = o + skp false l + (tok (l.drop (skp false l))).2.1.length + d by omega]

/-- A run's answer. -/
def ans (r : List Tk × Option (Nat × Int) × Nat) : List Tk × Int × Int := match r with
  | (_, some (a, e), _) => ([], a, e)
  | (l, none, _) => (l, 0, 0)
theorem lexR_eq (s : List UInt8) : lexR s = if 32768 < s.length then ([], 0, 3) else ans (run 0 s) := by
  unfold lexR run ans
  rw [Nat.zero_add]
  all_goals rfl
theorem run_err : ∀ (m : Nat) (l : List UInt8) (o : Nat), l.length < m → ∀ a e, (run o l).2.1 = some (a, e) → e ≠ 0 ∧ o ≤ a ∧ a < o + l.length ∧ (e = 30 ∨ e = 31 ∨ e = 32) := by
  intro m
  induction m with
  | zero => intro l o h; omega
  | succ m ih =>
    intro l o hm a e hr
    have hk := skp_le false l
    by_cases h : skp false l = l.length
    · rw [run_end h] at hr; cases hr
    · have hne : l.drop (skp false l) ≠ [] := fun he => by
        have := congrArg List.length he
        rw [List.length_drop, List.length_nil] at this
        omega
      rw [run_go h] at hr
      by_cases he : (tok (l.drop (skp false l))).2.2 = 0
      · rw [if_pos he] at hr
        have hp := tok_pos hne he
        have htl := tok_len (l.drop (skp false l))
        rw [List.length_drop] at htl
        obtain ⟨h1, h2, h3, h4⟩ := ih _ _ (by rw [List.length_drop]; omega) a e hr
        rw [List.length_drop] at h3
        exact ⟨h1, by omega, by omega, h4⟩
      · rw [if_neg he] at hr
        simp only [Option.some.injEq, Prod.mk.injEq] at hr
        obtain ⟨rfl, rfl⟩ := hr
        refine ⟨he, by omega, by omega, ?_⟩
        generalize l.drop (skp false l) = x at he ⊢
        unfold tok at he ⊢
        cases x with
        | nil => simp at he
        | cons b r =>
          simp only at he ⊢
          split at he
          · rename_i h1
            rw [if_pos h1]
            simp only [wordK] at he ⊢
            repeat' split at he
            all_goals first | (exact absurd rfl he) | skip
            rename_i g1 g2 g3
            rw [if_neg g1, if_neg g2, if_neg g3]; simp
          · rename_i h1
            rw [if_neg h1]
            split at he
            · rename_i h2
              rw [if_pos h2]
              simp only [numE] at he ⊢
              split at he
              · rename_i n hn
                repeat' split at he
                all_goals first | (exact absurd rfl he) | skip
                all_goals simp_all
              · rename_i hn
                simp_all
            · rename_i h2
              rw [if_neg h2]
              split at he
              · rename_i h3
                rw [if_pos h3]
                simp only at he ⊢
                split at he
                · exact absurd rfl he
                · rename_i h4; rw [if_neg h4]; simp
              · rename_i h3
                rw [if_neg h3]
                simp only at he ⊢
                split at he
                · rename_i h4; rw [if_pos h4]; simp
                · exact absurd rfl he
end Go.Sx.Lx
namespace Go.Sx.Lx
theorem run_toks : ∀ (m : Nat) (l : List UInt8) (o : Nat), l.length < m → (run o l).1.length ≤ l.length ∧ ∀ t ∈ (run o l).1, (o : Int) ≤ t.2.2 ∧ t.2.2 + t.2.1.length ≤ o + l.length := by
  intro m
  induction m with
  | zero => intro l o h; omega
  | succ m ih =>
    intro l o hm
    have hk := skp_le false l
    by_cases h : skp false l = l.length
    · rw [run_end h]; exact ⟨by simp, fun t ht => by cases ht⟩
    · have hne : l.drop (skp false l) ≠ [] := fun he => by
        have := congrArg List.length he
        rw [List.length_drop, List.length_nil] at this
        omega
      rw [run_go h]
      by_cases he : (tok (l.drop (skp false l))).2.2 = 0
      · rw [if_pos he]
        have hp := tok_pos hne he
        have htl := tok_len (l.drop (skp false l))
        rw [List.length_drop] at htl
        obtain ⟨h1, h2⟩ := ih (l.drop (skp false l + (tok (l.drop (skp false l))).2.1.length)) (o + skp false l + (tok (l.drop (skp false l))).2.1.length) (by rw [List.length_drop]; omega)
        rw [List.length_drop] at h1 h2
        refine ⟨by simp only [List.length_cons]; omega, fun t ht => ?_⟩
        rcases List.mem_cons.1 ht with rfl | ht
        · simp only; omega
        · have := h2 t ht; omega
      · rw [if_neg he]; exact ⟨by simp, fun t ht => by cases ht⟩
theorem shift_map (d : Nat) (l : List Tk) : (l.map fun t => ((t.1, t.2.1, t.2.2 + (d : Int)) : Tk)).map (fun t => (t.1, t.2.1)) = l.map fun t => (t.1, t.2.1) := by
  rw [List.map_map]; rfl
theorem alikeB_self (l : List Tk) : alikeB l l = true := (alikeB_iff l l).2 rfl
theorem map_de_to (l : List (List D)) (h : ∃ k : List Tk, l = k.map tokC) : l = (l.map deT).map tokC := by
  obtain ⟨k, rfl⟩ := h
  rw [map_deT]
end Go.Sx.Lx
namespace Go.Sx.Lx
theorem sep_35 : (List.range 256).all (fun n => !(isSep (UInt8.ofNat n)) || !(UInt8.ofNat n == 35)) = true := by decide +kernel
theorem sign_ne : ∀ s ∈ signL, s ≠ [] := by decide
theorem sep_tok {b : UInt8} (h : isSep b = true) (r : List UInt8) : (tok (b :: r)).2.2 ≠ 0 := by
  obtain ⟨h1, h2, h3, h4⟩ := sep_spec h
  have h5 : (b == 35) = false := by
    have := List.all_eq_true.1 sep_35 b.toNat (List.mem_range.2 b.toNat_lt)
    simpa [h] using this
  have h6 : (isLet b || isUnd b) = false := by
    simp only [isName, Bool.or_eq_false_iff] at h1
    simp only [h1.1.1, h1.2, Bool.or_false]
  have h7 : signOf (b :: r) = [] := by
    unfold signOf
    have : signL.find? (·.isPrefixOf (b :: r)) = none := by
      rw [List.find?_eq_none]
      intro s hs hp
      cases s with
      | nil => exact sign_ne _ hs rfl
      | cons x s =>
        have : x = b := by simp [List.isPrefixOf] at hp; exact hp.1
        exact h4 _ hs (by rw [this]; exact List.mem_cons_self ..)
    rw [this]; rfl
  simp only [tok, h6, h2, h5, Bool.false_eq_true, if_false, h7, if_true]
  decide

theorem takeWhile_idem (p : UInt8 → Bool) (l : List UInt8) : (l.takeWhile p).takeWhile p = l.takeWhile p := by
  induction l with
  | nil => rfl
  | cons b r ih =>
    rw [List.takeWhile_cons]
    split
    · rename_i h; rw [List.takeWhile_cons, if_pos h, ih]
    · rfl
theorem sign_self : ∀ s ∈ signL, signOf s = s := by decide +kernel
theorem sign_first : ∀ s ∈ signL, ∀ b ∈ s.head?, isLet b = false ∧ isUnd b = false ∧ isDig b = false ∧ (b == 35) = false := by decide +kernel
theorem signOf_mem {l : List UInt8} (h : signOf l ≠ []) : signOf l ∈ signL := by
  unfold signOf at h ⊢
  cases hf : signL.find? (·.isPrefixOf l) with
  | none => rw [hf] at h; exact absurd rfl h
  | some s => exact List.mem_of_find?_eq_some hf
/-- A token's text, read by itself, is that token. -/
theorem tok_self {l : List UInt8} (hl : l ≠ []) (h : (tok l).2.2 = 0) : tok (tok l).2.1 = tok l := by
  cases l with
  | nil => exact absurd rfl hl
  | cons b r =>
    by_cases h1 : (isLet b || isUnd b) = true
    · have e : tok (b :: r) = ((wordK ((b :: r).takeWhile isName)).1, (b :: r).takeWhile isName, (wordK ((b :: r).takeWhile isName)).2) := by simp only [tok, h1, if_true]
      have hb : isName b = true := by simp only [isName]; simp only [Bool.or_eq_true] at h1 ⊢; rcases h1 with h | h <;> simp [h]
      have e2 : (b :: r).takeWhile isName = b :: r.takeWhile isName := by rw [List.takeWhile_cons, if_pos hb]
      rw [e]
      simp only
      rw [e2]
      simp only [tok, h1, if_true]
      have e3 : (b :: r.takeWhile isName).takeWhile isName = b :: r.takeWhile isName := by rw [List.takeWhile_cons, if_pos hb, takeWhile_idem]
      rw [e3]
    · by_cases h2 : isDig b = true
      · have e : tok (b :: r) = (3, (b :: r).takeWhile isDig, numE ((b :: r).takeWhile isDig)) := by simp only [tok, h1, h2, if_true, if_false]; simp
        have e2 : (b :: r).takeWhile isDig = b :: r.takeWhile isDig := by rw [List.takeWhile_cons, if_pos h2]
        have e3 : (b :: r.takeWhile isDig).takeWhile isDig = b :: r.takeWhile isDig := by rw [List.takeWhile_cons, if_pos h2, takeWhile_idem]
        rw [e]
        simp only
        rw [e2]
        simp only [tok, h1, h2, if_true, e3]; simp
      · by_cases h3 : (b == 35) = true
        · have e : tok (b :: r) = (5, 35 :: r.takeWhile isLet, if 35 :: r.takeWhile isLet ∈ dirs then 0 else 31) := by simp only [tok, h1, h2, h3, if_true]; simp
          have hb : b = 35 := eq_of_beq h3
          subst hb
          rw [e]
          have e4 : tok (35 :: r.takeWhile isLet) = (5, 35 :: (r.takeWhile isLet).takeWhile isLet, if 35 :: (r.takeWhile isLet).takeWhile isLet ∈ dirs then 0 else 31) := by simp only [tok, h1, h2, h3, if_true]; simp
          rw [e4, takeWhile_idem]
        · have e : tok (b :: r) = (6, signOf (b :: r), if signOf (b :: r) = [] then 30 else 0) := by simp only [tok, h1, h2, h3]; simp
          rw [e] at h ⊢
          simp only at h ⊢
          by_cases hs : signOf (b :: r) = []
          · rw [if_pos hs] at h; cases h
          · have hm := signOf_mem hs
            have hself := sign_self _ hm
            have hf := sign_first _ hm
            generalize signOf (b :: r) = s at hs hm hself hf ⊢
            cases s with
            | nil => exact absurd rfl hs
            | cons x s =>
              obtain ⟨g1, g2, g3, g4⟩ := hf x rfl
              simp only [tok, g1, g2, g3, g4, Bool.or_self, Bool.false_eq_true, if_false, hself]

/-- A token that stands by itself. -/
def Val (t : Tk) : Prop := t.2.1 ≠ [] ∧ tok t.2.1 = (t.1, t.2.1, 0)
theorem val_of {l : List UInt8} (hl : l ≠ []) (h : (tok l).2.2 = 0) (a : Int) : Val ((tok l).1, (tok l).2.1, a) := by
  have hp := tok_pos hl h
  refine ⟨fun he => by rw [he] at hp; simp at hp, ?_⟩
  rw [tok_self hl h]
  exact Prod.ext rfl (Prod.ext rfl h)
theorem run_val : ∀ (m : Nat) (l : List UInt8) (o : Nat), l.length < m → ∀ t ∈ (run o l).1, Val t := by
  intro m
  induction m with
  | zero => intro l o h; omega
  | succ m ih =>
    intro l o hm
    have hk := skp_le false l
    by_cases h : skp false l = l.length
    · rw [run_end h]; intro t ht; cases ht
    · have hne : l.drop (skp false l) ≠ [] := fun he => by
        have := congrArg List.length he
        rw [List.length_drop, List.length_nil] at this
        omega
      rw [run_go h]
      by_cases he : (tok (l.drop (skp false l))).2.2 = 0
      · rw [if_pos he]
        have hp := tok_pos hne he
        intro t ht
        rcases List.mem_cons.1 ht with rfl | ht
        · exact val_of hne he _
        · exact ih (l.drop (skp false l + (tok (l.drop (skp false l))).2.1.length)) _ (by rw [List.length_drop]; omega) t ht
      · rw [if_neg he]; intro t ht; cases ht

/-- It begins with a separator, or is empty. -/
def Sepd (r : List UInt8) : Prop := r = [] ∨ ∃ c q, r = c :: q ∧ isSep c = true
theorem val_tok {t : Tk} (h : Val t) {r : List UInt8} (hr : Sepd r) : tok (t.2.1 ++ r) = (t.1, t.2.1, 0) := by
  rcases hr with rfl | ⟨c, q, rfl, hc⟩
  · rw [List.append_nil]; exact h.2
  · rw [tok_sep hc h.1]; exact h.2
theorem val_head {t : Tk} (h : Val t) : ∃ b r, t.2.1 = b :: r ∧ isSep b = false := by
  obtain ⟨h1, h2⟩ := h
  cases hs : t.2.1 with
  | nil => exact absurd hs h1
  | cons b r =>
    refine ⟨b, r, rfl, ?_⟩
    rw [hs] at h2
    cases hb : isSep b with
    | false => rfl
    | true => exact absurd (by rw [h2]) (sep_tok hb r)
theorem skp_head {b : UInt8} (h : isSep b = false) (r : List UInt8) : skp false (b :: r) = 0 := by
  simp only [isSep, Bool.or_eq_false_iff] at h
  simp only [skp, h.1, h.2, Bool.false_eq_true, if_false]
/-- A gap: blanks and comments that end before what is no separator. -/
def Gap (g : List UInt8) : Prop := ∀ b r, isSep b = false → skp false (g ++ b :: r) = g.length
theorem run_piece {g : List UInt8} {t : Tk} {r : List UInt8} (hg : Gap g) (ht : Val t) (hr : Sepd r) (o : Nat) :
    run o (g ++ (t.2.1 ++ r)) = ((t.1, t.2.1, ((o + g.length : Nat) : Int)) :: (run (o + g.length + t.2.1.length) r).1, (run (o + g.length + t.2.1.length) r).2) := by
  obtain ⟨b, q, hb, hs⟩ := val_head ht
  have h1 : skp false (g ++ (t.2.1 ++ r)) = g.length := by rw [hb]; exact hg b (q ++ r) hs
  have h2 : (g ++ (t.2.1 ++ r)).drop g.length = t.2.1 ++ r := List.drop_left' rfl
  have hlt : 0 < t.2.1.length := by rw [hb]; simp
  rw [run_go (by rw [h1]; simp only [List.length_append]; omega), h1, h2, val_tok ht hr, if_pos rfl]
  have h3 : (g ++ (t.2.1 ++ r)).drop (g.length + t.2.1.length) = r := by rw [← List.drop_drop, h2, List.drop_left' rfl]
  rw [h3]
theorem gap_nil : Gap [] := fun b r h => by simpa using skp_head h r
theorem gap_blank {c : UInt8} (h : isBlank c = true) {g : List UInt8} (hg : Gap g) : Gap (c :: g) := fun b r hb => by
  simp only [List.cons_append, skp, h, if_true, hg b r hb, List.length_cons]; omega

/-- The texts behind each other, a blank ahead of each. -/
def tailJ : List Tk → List UInt8
  | [] => []
  | t :: r => 32 :: (t.2.1 ++ tailJ r)
theorem tailJ_sep (l : List Tk) : Sepd (tailJ l) := by
  cases l with
  | nil => exact .inl rfl
  | cons t r => exact .inr ⟨32, _, rfl, rfl⟩
theorem run_tailJ : ∀ (l : List Tk) (o : Nat), (∀ t ∈ l, Val t) → (run o (tailJ l)).2.1 = none ∧ alikeB l (run o (tailJ l)).1 = true
  | [], o, _ => by
    have : run o (tailJ []) = ([], none, o + 0) := run_end rfl
    rw [this]; exact ⟨rfl, rfl⟩
  | t :: r, o, h => by
    have hp := run_piece (gap_blank (c := 32) rfl gap_nil) (h t (List.mem_cons_self ..)) (tailJ_sep r) o
    obtain ⟨h1, h2⟩ := run_tailJ r (o + [(32 : UInt8)].length + t.2.1.length) fun x hx => h x (List.mem_cons_of_mem _ hx)
    have e : tailJ (t :: r) = [32] ++ (t.2.1 ++ tailJ r) := rfl
    rw [e, hp]
    refine ⟨h1, ?_⟩
    simp only [alikeB, decide_true, Bool.and_self, Bool.true_and]
    exact h2
theorem joinTail_eq : ∀ l : List Tk, Lib.joinTail [32] (l.map (·.2.1)) = tailJ l
  | [] => rfl
  | t :: r => by
    have := joinTail_eq r
    simp [Lib.joinTail, tailJ] at this ⊢
    exact this
theorem join_tail (t : Tk) (r : List Tk) : Lib.join ((t :: r).map (·.2.1)) [32] = t.2.1 ++ tailJ r := by
  rw [List.map_cons, Lib.join_cons, joinTail_eq]
theorem run_join (l : List Tk) (h : ∀ t ∈ l, Val t) : (run 0 (Lib.join (l.map (·.2.1)) [32])).2.1 = none ∧ alikeB l (run 0 (Lib.join (l.map (·.2.1)) [32])).1 = true := by
  cases l with
  | nil =>
    rw [List.map_nil, Lib.join_nil]
    have : run 0 [] = ([], none, 0 + 0) := run_end rfl
    rw [this]; exact ⟨rfl, rfl⟩
  | cons t r =>
    rw [join_tail]
    have hp := run_piece gap_nil (h t (List.mem_cons_self ..)) (tailJ_sep r) 0
    obtain ⟨h1, h2⟩ := run_tailJ r (0 + ([] : List UInt8).length + t.2.1.length) fun x hx => h x (List.mem_cons_of_mem _ hx)
    rw [List.nil_append] at hp
    rw [hp]
    refine ⟨h1, ?_⟩
    simp only [alikeB, decide_true, Bool.and_self, Bool.true_and]
    exact h2
theorem tailJ_len : ∀ (l : List Tk) (B : Nat), (∀ t ∈ l, t.2.1.length ≤ B) → (tailJ l).length ≤ l.length * (B + 1)
  | [], B, _ => by simp [tailJ]
  | t :: r, B, h => by
    have h1 := h t (List.mem_cons_self ..)
    have h2 := tailJ_len r B fun x hx => h x (List.mem_cons_of_mem _ hx)
    simp only [tailJ, List.length_cons, List.length_append]
    rw [Nat.add_mul, Nat.one_mul]
    omega

/-- What is skipped is blanks and comments. -/
theorem skp_empty : ∀ (c : Bool) (l : List UInt8), emptyB c (l.take (skp c l)) = true
  | _, [] => by simp [skp, emptyB]
  | false, b :: r => by
    have h1 := skp_empty false r
    have h2 := skp_empty true r
    simp only [skp]
    split
    · rename_i hb
      rw [Nat.add_comm, List.take_succ_cons]
      simp only [emptyB]
      simp only [isBlank, Bool.or_eq_true, beq_iff_eq] at hb
      rcases hb with ((rfl | rfl) | rfl) | rfl <;> simp [h1]
    split
    · rename_i hb
      rw [Nat.add_comm, List.take_succ_cons]
      have hb := eq_of_beq hb
      subst hb
      simp [emptyB, h2]
    · simp [emptyB]
  | true, b :: r => by
    have h1 := skp_empty false r
    have h2 := skp_empty true r
    simp only [skp]
    split
    · rename_i hb
      rw [Nat.add_comm, List.take_succ_cons]
      have hb := eq_of_beq hb
      subst hb
      simp [emptyB, h1]
    · rename_i hb
      rw [Nat.add_comm, List.take_succ_cons]
      have hb : b ≠ 10 := fun h => hb (by simp [h])
      simp [emptyB, hb, h2]
/-- The tokens stand in the source, from a place on, with blanks and comments between. -/
def Occ (s : List UInt8) : Nat → List Tk → Prop
  | i, [] => emptyB false (s.drop i) = true
  | i, t :: r => ∃ n : Nat, t.2.2 = (n : Int) ∧ i ≤ n ∧ n + t.2.1.length ≤ s.length ∧ (s.drop n).take t.2.1.length = t.2.1 ∧ emptyB false ((s.take n).drop i) = true ∧ Occ s (n + t.2.1.length) r
theorem tok_take (l : List UInt8) : l.take (tok l).2.1.length = (tok l).2.1 := by
  cases l with
  | nil => simp [tok]
  | cons b r =>
    have tw : ∀ (p : UInt8 → Bool) (l : List UInt8), l.take (l.takeWhile p).length = l.takeWhile p := fun p l => (List.prefix_iff_eq_take.1 (List.takeWhile_prefix p)).symm
    unfold tok
    simp only
    split
    · exact tw _ _
    split
    · exact tw _ _
    split
    · rename_i h; rw [eq_of_beq h]; simp [tw]
    · simp only [signOf]
      cases hf : signL.find? (·.isPrefixOf (b :: r)) with
      | none => simp
      | some s =>
        have := List.find?_some hf
        exact (List.prefix_iff_eq_take.1 (List.isPrefixOf_iff_prefix.1 this)).symm
theorem run_occ (s : List UInt8) : ∀ (m o : Nat), s.length - o < m → o ≤ s.length → (run o (s.drop o)).2.1 = none → Occ s o (run o (s.drop o)).1 := by
  intro m
  induction m with
  | zero => intro o h; omega
  | succ m ih =>
    intro o hm ho hn
    have hk := skp_le false (s.drop o)
    have hem := skp_empty false (s.drop o)
    rw [List.length_drop] at hk
    by_cases h : skp false (s.drop o) = (s.drop o).length
    · rw [run_end h]
      rw [h, List.take_length] at hem
      exact hem
    · have hne : (s.drop o).drop (skp false (s.drop o)) ≠ [] := fun he => by
        have := congrArg List.length he
        rw [List.length_drop, List.length_nil] at this
        have := skp_le false (s.drop o)
        omega
      rw [List.length_drop] at h
      rw [run_go (by rw [List.length_drop]; exact h)] at hn ⊢
      by_cases he : (tok ((s.drop o).drop (skp false (s.drop o)))).2.2 = 0
      · rw [if_pos he] at hn ⊢
        have hp := tok_pos hne he
        have htl := tok_len ((s.drop o).drop (skp false (s.drop o)))
        have htk := tok_take ((s.drop o).drop (skp false (s.drop o)))
        rw [List.length_drop, List.length_drop] at htl
        rw [List.drop_drop] at hn hp htl htk ⊢
        have ed : (s.drop o).drop (skp false (s.drop o) + (tok (s.drop (o + skp false (s.drop o)))).2.1.length) = s.drop (o + skp false (s.drop o) + (tok (s.drop (o + skp false (s.drop o)))).2.1.length) := by
          rw [List.drop_drop, Nat.add_assoc]
        rw [ed] at hn ⊢
        have hx := ih (o + skp false (s.drop o) + (tok (s.drop (o + skp false (s.drop o)))).2.1.length) (by omega) (by omega) hn
        refine ⟨o + skp false (s.drop o), rfl, by omega, by simp only; omega, htk, ?_, hx⟩
        have : (s.take (o + skp false (s.drop o))).drop o = (s.drop o).take (skp false (s.drop o)) := by rw [List.drop_take]; congr 1; omega
        rw [this]; exact hem
      · rw [if_neg he] at hn; cases hn
end Go.Sx.Lx
namespace Go.Sx.Lx
theorem run_lens : ∀ (m : Nat) (l : List UInt8) (o : Nat), l.length < m → Lib.lens ((run o l).1.map (·.2.1)) ≤ l.length := by
  intro m
  induction m with
  | zero => intro l o h; omega
  | succ m ih =>
    intro l o hm
    have hk := skp_le false l
    by_cases h : skp false l = l.length
    · rw [run_end h]; simp [Lib.lens]
    · have hne : l.drop (skp false l) ≠ [] := fun he => by
        have := congrArg List.length he
        rw [List.length_drop, List.length_nil] at this
        omega
      rw [run_go h]
      by_cases he : (tok (l.drop (skp false l))).2.2 = 0
      · rw [if_pos he]
        have hp := tok_pos hne he
        have htl := tok_len (l.drop (skp false l))
        rw [List.length_drop] at htl
        have h1 := ih (l.drop (skp false l + (tok (l.drop (skp false l))).2.1.length)) (o + skp false l + (tok (l.drop (skp false l))).2.1.length) (by rw [List.length_drop]; omega)
        rw [List.length_drop] at h1
        simp only [Lib.lens, List.map_cons, List.sum_cons] at h1 ⊢
        omega
      · rw [if_neg he]; simp [Lib.lens]
theorem join_le (l : List Tk) : (Lib.join (l.map (·.2.1)) [32]).length ≤ l.length + Lib.lens (l.map (·.2.1)) := by
  cases l with
  | nil => simp [Lib.join_nil]
  | cons t r =>
    rw [List.map_cons, Lib.join_length]
    simp
end Go.Sx.Lx
namespace Go.Sx.Lx
def fills : List (List UInt8) := [[32], [10], [9, 32], [37, 10], [32, 37, 32, 97, 46, 32, 35, 120, 10], [13, 10]]
/-- The end that is appended. -/
def theEnd : List UInt8 := [32, 37, 32, 116, 104, 101, 32, 101, 110, 100]
def pickF (g : Int) : Int := pickG g 6
theorem pickF_lt (g : Int) : 0 ≤ pickF g ∧ pickF g < 6 := by
  have h1 := Int.tmod_lt_of_pos g (b := 6) (by omega)
  have h2 := Int.tmod_lt_of_pos (-g) (b := 6) (by omega)
  rw [Int.neg_tmod] at h2
  unfold pickF pickG
  split <;> omega
def fillOf (g : Int) : List UInt8 := fills.getD (pickF g).toNat []
theorem fillOf_mem (g : Int) : fillOf g ∈ fills := by
  have h := pickF_lt g
  unfold fillOf
  rw [List.getD_eq_getElem?_getD, List.getElem?_eq_getElem (by have : fills.length = 6 := rfl; omega), Option.getD_some]
  exact List.getElem_mem _
theorem fill_gap : ∀ f ∈ fills, Gap f ∧ (∃ c q, f = c :: q ∧ isSep c = true) ∧ f.length ≤ 9 := by
  intro f hf
  simp only [fills, List.mem_cons, List.not_mem_nil, or_false] at hf
  rcases hf with rfl | rfl | rfl | rfl | rfl | rfl
  all_goals refine ⟨fun b r hb => ?_, ⟨_, _, rfl, rfl⟩, by decide⟩
  all_goals
    have h0 : skp false (b :: r) = 0 := skp_head hb r
    simp only [List.cons_append, List.nil_append]
    generalize b :: r = x at h0
    simp [skp, isBlank, h0]
def gapF (gs : List Int) (i : Nat) : Int := if i < gs.length then gs.getD i 0 else i
/-- The tokens with gaps ahead of them, the end. -/
def tailB (gs : List Int) : Nat → List Tk → List UInt8
  | _, [] => theEnd
  | i, t :: r => fillOf (gapF gs i) ++ (t.2.1 ++ tailB gs (i + 1) r)
def offB (gs : List Int) : Nat → Nat → List Tk → List Int
  | _, _, [] => []
  | i, o, t :: r => ((o + (fillOf (gapF gs i)).length : Nat) : Int) :: offB gs (i + 1) (o + (fillOf (gapF gs i)).length + t.2.1.length) r
def finB (gs : List Int) : Nat → List Tk → List UInt8 → List Int → List UInt8 × List Int
  | _, [], s, o => (s, o)
  | i, t :: r, s, o => finB gs (i + 1) r (s ++ fillOf (gapF gs i) ++ t.2.1) (o ++ [((s ++ fillOf (gapF gs i)).length : Int)])
theorem finB_eq (gs : List Int) : ∀ (l : List Tk) (i : Nat) (s : List UInt8) (o : List Int), (finB gs i l s o).1 ++ theEnd = s ++ tailB gs i l ∧ (finB gs i l s o).2 = o ++ offB gs i s.length l
  | [], i, s, o => by simp [finB, tailB, offB]
  | t :: r, i, s, o => by
    obtain ⟨h1, h2⟩ := finB_eq gs r (i + 1) (s ++ fillOf (gapF gs i) ++ t.2.1) (o ++ [((s ++ fillOf (gapF gs i)).length : Int)])
    simp only [finB, tailB, offB]
    rw [h1, h2]
    simp [Nat.add_assoc]
theorem tailB_sep (gs : List Int) (i : Nat) (l : List Tk) : Sepd (tailB gs i l) := by
  cases l with
  | nil => exact .inr ⟨32, _, rfl, rfl⟩
  | cons t r =>
    obtain ⟨_, ⟨c, q, h, hc⟩, _⟩ := fill_gap _ (fillOf_mem (gapF gs i))
    exact .inr ⟨c, q ++ (t.2.1 ++ tailB gs (i + 1) r), by simp only [tailB, h, List.cons_append], hc⟩
theorem run_tailB (gs : List Int) : ∀ (l : List Tk) (i o : Nat), (∀ t ∈ l, Val t) → (run o (tailB gs i l)).2.1 = none ∧ alikeB l (run o (tailB gs i l)).1 = true ∧ (run o (tailB gs i l)).1.map (·.2.2) = offB gs i o l
  | [], i, o, _ => by
    have : run o (tailB gs i []) = ([], none, o + theEnd.length) := run_end (l := theEnd) (by decide)
    rw [this]; exact ⟨rfl, rfl, rfl⟩
  | t :: r, i, o, h => by
    obtain ⟨hg, _, _⟩ := fill_gap _ (fillOf_mem (gapF gs i))
    have hp := run_piece hg (h t (List.mem_cons_self ..)) (tailB_sep gs (i + 1) r) o
    obtain ⟨h1, h2, h3⟩ := run_tailB gs r (i + 1) (o + (fillOf (gapF gs i)).length + t.2.1.length) fun x hx => h x (List.mem_cons_of_mem _ hx)
    have e : tailB gs i (t :: r) = fillOf (gapF gs i) ++ (t.2.1 ++ tailB gs (i + 1) r) := rfl
    rw [e, hp]
    refine ⟨h1, ?_, ?_⟩
    · simp only [alikeB, decide_true, Bool.and_self, Bool.true_and]
      exact h2
    · simp only [List.map_cons, offB, h3]
theorem offB_len (gs : List Int) : ∀ (l : List Tk) (i o : Nat), (offB gs i o l).length = l.length
  | [], _, _ => rfl
  | t :: r, i, o => by simp [offB, offB_len gs r]
end Go.Sx.Lx

/- The reference model's lexer, plainly: its tests are the lexer's. -/
namespace Go.Sx.Lx
open Go.Sx
theorem dropWhile_drop (p : UInt8 → Bool) : ∀ s : List UInt8, s.dropWhile p = s.drop (s.takeWhile p).length
  | [] => rfl
  | b :: r => by
    rw [List.dropWhile_cons, List.takeWhile_cons]
    split
    · rw [List.length_cons, List.drop_succ_cons, dropWhile_drop p r]
    · rfl
theorem runTo_zero (p : UInt8 → Bool) (s : List UInt8) : runTo p s 0 = (s.takeWhile p).length := by unfold runTo; rw [List.drop_zero, Nat.zero_add]
theorem wordB_eq (first : UInt8 → Bool) (s : List UInt8) : wordB first s = (decide (runTo isUnd s 0 < s.length) && first (s.getD (runTo isUnd s 0) 0) && ((s.drop (runTo isUnd s 0)).all isName && decide (s.length ≤ 32))) := by
  unfold wordB
  rw [dropWhile_drop, ← runTo_zero]
  by_cases h : runTo isUnd s 0 < s.length
  · rw [drop_getD (d := 0) h, decide_eq_true h, Bool.true_and]
    simp only [Bool.and_assoc]
  · rw [List.drop_eq_nil_of_le (by omega), decide_eq_false h]; rfl
theorem dig_und : (List.range 256).all (fun n => !(isDig (UInt8.ofNat n)) || (!(isUnd (UInt8.ofNat n)) && !(isUp (UInt8.ofNat n)))) = true := by decide +kernel
theorem dig_spec {b : UInt8} (h : isDig b = true) : isUnd b = false ∧ isUp b = false := by
  have := List.all_eq_true.1 dig_und b.toNat (List.mem_range.2 b.toNat_lt)
  rw [UInt8.ofNat_toNat] at this
  rw [h] at this
  simpa using this
theorem isUnd_iff (b : UInt8) : isUnd b = true ↔ b = 95 := by simp [isUnd]
/-- 'Variable' of the reference model. -/
def varR (s : List UInt8) : Bool :=
  if runTo isUnd s 0 < s.length ∧ isUp (s.getD (runTo isUnd s 0) 0) = true then (s.drop (runTo isUnd s 0)).all isName && decide (s.length ≤ 32)
  else if runTo isUnd s 0 = 1 ∧ s.length ≤ 32 then (s.drop 1).all isDig else false
theorem varR_eq (s : List UInt8) : varR s = variableB s := by
  unfold varR variableB
  rw [wordB_eq]
  by_cases h : runTo isUnd s 0 < s.length ∧ isUp (s.getD (runTo isUnd s 0) 0) = true
  · rw [if_pos h, decide_eq_true h.1, h.2, Bool.true_and, Bool.true_and]
    suffices hx : ∀ (t : List UInt8), s = 95 :: t → t.all isDig = false by
      split
      · rename_i t; rw [hx t rfl]; simp
      · simp
    rintro t rfl
    rw [runTo_zero, List.takeWhile_cons, if_pos (show isUnd 95 = true from rfl)] at h
    simp only [List.length_cons, List.getD_cons_succ] at h
    have h1 : (t.takeWhile isUnd).length < t.length := by omega
    cases ha : t.all isDig with
    | false => rfl
    | true =>
      have := List.all_eq_true.1 ha (t.getD (t.takeWhile isUnd).length 0) (by rw [List.getD_eq_getElem?_getD, List.getElem?_eq_getElem h1]; exact List.getElem_mem h1)
      rw [(dig_spec this).2] at h
      exact absurd h.2 (by simp)
  · rw [if_neg h]
    have hw : (decide (runTo isUnd s 0 < s.length) && isUp (s.getD (runTo isUnd s 0) 0)) = false := by
      cases h1 : decide (runTo isUnd s 0 < s.length) with
      | false => rfl
      | true =>
        cases h2 : isUp (s.getD (runTo isUnd s 0) 0) with
        | false => rfl
        | true => exact absurd ⟨of_decide_eq_true h1, h2⟩ h
    rw [hw, Bool.false_and, Bool.false_or]
    cases s with
    | nil => simp [runTo]
    | cons b t =>
      by_cases hb : b = 95
      · subst hb
        have e : runTo isUnd (95 :: t) 0 = (t.takeWhile isUnd).length + 1 := by rw [runTo_zero, List.takeWhile_cons, if_pos (show isUnd 95 = true from rfl)]; rfl
        rw [e]
        simp only [List.drop_succ_cons, List.drop_zero]
        by_cases ht : (t.takeWhile isUnd).length = 0
        · by_cases hl : (95 :: t : List UInt8).length ≤ 32
          · rw [if_pos ⟨by omega, hl⟩, decide_eq_true hl, Bool.and_true]
          · rw [if_neg (fun h => hl h.2), decide_eq_false hl, Bool.and_false]
        · rw [if_neg (fun h => ht (by omega))]
          cases t with
          | nil => exact absurd rfl ht
          | cons c q =>
            have hc : isUnd c = true := by
              cases hc : isUnd c with
              | true => rfl
              | false => rw [List.takeWhile_cons, if_neg (by simp [hc])] at ht; exact absurd rfl ht
            have hd : isDig c = false := by
              cases hd : isDig c with
              | false => rfl
              | true => rw [(dig_spec hd).1] at hc; cases hc
            simp [hd]
      · have e : runTo isUnd (b :: t) 0 = 0 := by
          rw [runTo_zero, List.takeWhile_cons, if_neg (by rw [isUnd_iff]; exact hb)]; rfl
        rw [e, if_neg (by simp)]
        split
        · rename_i heq; cases heq; exact absurd rfl hb
        · rfl
theorem symbolB_ref (s : List UInt8) : symbolB s = (decide (runTo isUnd s 0 < s.length) && isLow (s.getD (runTo isUnd s 0) 0) && ((s.drop (runTo isUnd s 0)).all isName && decide (s.length ≤ 32)) && !decide (s = notS)) := by
  unfold symbolB
  rw [wordB_eq]
  by_cases h : s = notS <;> simp [h]
end Go.Sx.Lx

/- Numbers and signs of the reference model. -/
namespace Go.Sx.Lx
open Go.Sx
def valN (a : Nat) (l : List UInt8) : Nat := l.foldl (fun a c => a * 10 + (c.toNat - 48)) a
theorem valN_cons (a : Nat) (c : UInt8) (r : List UInt8) : valN a (c :: r) = valN (a * 10 + (c.toNat - 48)) r := by unfold valN; rw [List.foldl_cons]
theorem valN_nil (a : Nat) : valN a [] = a := by unfold valN; rw [List.foldl_nil]
attribute [irreducible] valN
theorem valN_le (l : List UInt8) : ∀ (a : Nat), a ≤ valN a l := by
  induction l with
  | nil => intro a; rw [valN_nil]; exact Nat.le_refl _
  | cons c r ih =>
    intro a
    rw [valN_cons]
    exact Nat.le_trans (by omega) (ih _)
theorem valN_app (l r : List UInt8) : ∀ (a : Nat), valN a (l ++ r) = valN (valN a l) r := by
  induction l with
  | nil => intro a; rw [valN_nil]; rfl
  | cons c l ih => intro a; rw [List.cons_append, valN_cons, valN_cons, ih]
theorem isDig_iff (b : UInt8) : isDig b = true ↔ 48 ≤ b.toNat ∧ b.toNat ≤ 57 := by simp [isDig]
theorem parse_ok : ∀ (l : List UInt8) (a u : Nat), Lib.parseUint10 a l = .ok u → u = valN a l
  | [], a, u, h => by simp only [Lib.parseUint10] at h; cases h; rw [valN_nil]
  | c :: r, a, u, h => by
    simp only [Lib.parseUint10] at h
    split at h
    · split at h
      · cases h
      · split at h
        · cases h
        · rw [valN_cons]; exact parse_ok r _ u h
    · cases h
theorem parse_small : ∀ (l : List UInt8) (a : Nat), l.all isDig = true → valN a l ≤ 2147483647 → Lib.parseUint10 a l = .ok (valN a l)
  | [], a, _, _ => by rw [valN_nil]; rfl
  | c :: r, a, hd, hv => by
    rw [List.all_cons, Bool.and_eq_true, isDig_iff] at hd
    rw [valN_cons] at hv
    have h1 := valN_le r (a * 10 + (c.toNat - 48))
    simp only [Lib.parseUint10]
    rw [valN_cons]
    rw [if_pos hd.1, if_neg (by omega), if_neg (by omega)]
    exact parse_small r _ hd.2 hv
theorem dec_val : ∀ (m : Nat) (l : List UInt8), l.length = m → l ≠ [] → l.all isDig = true → (Lib.decDigits (valN 0 l) = l ↔ l.length = 1 ∨ l.head? ≠ some 48) := by
  intro m
  induction m with
  | zero => intro l h hn; exact absurd (List.length_eq_zero_iff.1 h) hn
  | succ m ih =>
    intro l hl hne hd
    obtain ⟨q, c, rfl⟩ : ∃ q c, l = q ++ [c] := ⟨l.dropLast, l.getLast hne, (List.dropLast_concat_getLast hne).symm⟩
    rw [List.length_append, List.length_singleton] at hl
    rw [List.all_append, Bool.and_eq_true] at hd
    have hc : 48 ≤ c.toNat ∧ c.toNat ≤ 57 := by
      have := hd.2
      rw [List.all_cons, List.all_nil, Bool.and_true, isDig_iff] at this
      exact this
    rw [valN_app, valN_cons, valN_nil]
    have hcc : UInt8.ofNat (48 + (c.toNat - 48)) = c := by rw [show 48 + (c.toNat - 48) = c.toNat by omega]; simp
    cases q with
    | nil =>
      simp only [valN_nil, Nat.zero_mul, Nat.zero_add, List.nil_append, List.length_singleton, true_or, iff_true]
      rw [Lib.decDigits_one (by omega), hcc]
    | cons b r =>
      have hih := ih (b :: r) (by omega) (by simp) hd.1
      have hb : 48 ≤ b.toNat ∧ b.toNat ≤ 57 := by
        have := hd.1
        rw [List.all_cons, Bool.and_eq_true, isDig_iff] at this
        exact this.1
      have hge := valN_le r (0 * 10 + (b.toNat - 48))
      have hv : valN 0 (b :: r) = valN (0 * 10 + (b.toNat - 48)) r := valN_cons _ _ _
      by_cases h0 : valN 0 (b :: r) = 0
      · have hb0 : b = 48 := UInt8.toNat_inj.1 (by have : (48 : UInt8).toNat = 48 := rfl; omega)
        rw [h0, Nat.zero_mul, Nat.zero_add, Lib.decDigits_one (by omega)]
        constructor
        · intro h; have := congrArg List.length h; simp at this
        · rintro (h | h)
          · simp at h
          · rw [hb0] at h; simp at h
      · have hten : ¬ valN 0 (b :: r) * 10 + (c.toNat - 48) < 10 := by omega
        rw [Lib.decDigits, dif_neg hten, show (valN 0 (b :: r) * 10 + (c.toNat - 48)) / 10 = valN 0 (b :: r) by omega, show (valN 0 (b :: r) * 10 + (c.toNat - 48)) % 10 = c.toNat - 48 by omega, hcc]
        rw [List.append_left_inj, hih]
        constructor
        · rintro (h | h)
          · right
            simp only [List.cons_append, List.head?_cons, ne_eq, Option.some.injEq]
            rintro rfl
            have hr : r = [] := by cases r with
              | nil => rfl
              | cons x y => simp at h
            subst hr
            exact h0 (by rw [valN_cons, valN_nil]; rfl)
          · right; simpa using h
        · rintro (h | h)
          · simp at h
          · right; simpa using h
theorem itoa_nat (n : Nat) : Lib.itoa (n : Int) = Lib.decDigits n := by
  unfold Lib.itoa
  rw [if_neg (by omega), Int.toNat_natCast]
theorem numE_iff {s : List UInt8} (hne : s ≠ []) (hd : s.all isDig = true) : numE s = 0 ↔ valN 0 s ≤ 2147483647 ∧ (s.length = 1 ∨ s.head? ≠ some 48) := by
  rw [← dec_val _ s rfl hne hd]
  unfold numE
  cases s with
  | nil => exact absurd rfl hne
  | cons c r =>
    have hc : 48 ≤ c.toNat ∧ c.toNat ≤ 57 := by
      rw [List.all_cons, Bool.and_eq_true, isDig_iff] at hd; exact hd.1
    simp only [Lib.atoiAll]
    rw [if_neg (show ¬ (c.toNat = 43 ∨ c.toNat = 45) by omega)]
    simp only [Lib.parseMag, if_neg (List.cons_ne_nil c r), show ¬ c.toNat = 45 by omega, not_false_iff, true_and, false_and, if_false]
    by_cases hv : valN 0 (c :: r) ≤ 2147483647
    · rw [parse_small _ _ hd hv]
      simp only
      rw [if_neg (by omega)]
      simp only
      rw [if_neg (by omega), itoa_nat]
      by_cases hx : Lib.decDigits (valN 0 (c :: r)) = c :: r
      · rw [if_pos hx]; simp [hx, hv]
      · rw [if_neg hx]; simp [hx]
    · constructor
      · intro h
        exfalso
        cases hp : Lib.parseUint10 0 (c :: r)
        case ok u =>
          have := parse_ok _ _ _ hp
          rw [hp] at h
          simp only at h
          split at h
          · rename_i n heq
            split at heq
            · cases heq
            · cases heq
              rw [if_pos (by omega)] at h; cases h
          · cases h
        all_goals (rw [hp] at h; simp at h)
      · exact fun h => absurd h.1 hv
def twoL : List (List UInt8) := [[58, 45], [58, 126], [46, 46], [33, 61], [60, 61], [62, 61]]
def oneL : List UInt8 := [58, 46, 44, 59, 124, 40, 41, 123, 125, 91, 93, 61, 60, 62, 43, 45, 42, 47, 92, 64]
theorem sign_heads : ∀ s ∈ signL, ∃ h ∈ s.head?, h ∈ 33 :: oneL := by decide +kernel
theorem sign_two : ∀ b ∈ 33 :: oneL, ∀ c ∈ ([45, 126, 46, 61] : List UInt8), (signOf [b, c]).length = if [b, c] ∈ twoL then 2 else if b ∈ oneL then 1 else 0 := by decide +kernel
theorem sign_one : ∀ b ∈ 33 :: oneL, (signOf [b]).length = if [b] ∈ twoL then 2 else if b ∈ oneL then 1 else 0 := by decide +kernel
theorem sign_lens : ∀ s ∈ signL, s.length = 1 ∨ (s.length = 2 ∧ s.getD 1 0 ∈ ([45, 126, 46, 61] : List UInt8)) := by decide +kernel
theorem two_lens : ∀ s ∈ twoL, s.length = 2 ∧ s.getD 1 0 ∈ ([45, 126, 46, 61] : List UInt8) := by decide +kernel
theorem two_fst : ∀ s ∈ twoL, s.getD 0 0 ∈ 33 :: oneL := by decide +kernel
theorem one_sub : ∀ b ∈ oneL, b ∈ 33 :: oneL := fun b h => List.mem_cons_of_mem _ h
theorem signOf_len (b : UInt8) (r : List UInt8) : (signOf (b :: r)).length = if (b :: r).take 2 ∈ twoL then 2 else if b ∈ oneL then 1 else 0 := by
  by_cases hb : b ∈ 33 :: oneL
  · cases r with
    | nil => exact sign_one b hb
    | cons c q =>
      by_cases hc : c ∈ ([45, 126, 46, 61] : List UInt8)
      · have e : signOf (b :: c :: q) = signOf [b, c] := by
          unfold signOf
          rw [find_congr fun s hs => ?_]
          rcases sign_lens s hs with h | ⟨h, _⟩
          · match s, h with
            | [x], _ => simp [List.isPrefixOf]
          · match s, h with
            | [x, y], _ => simp [List.isPrefixOf]
        rw [e]; exact sign_two b hb c hc
      · have e : signOf (b :: c :: q) = signOf [b] := by
          unfold signOf
          rw [find_congr fun s hs => ?_]
          rcases sign_lens s hs with h | ⟨h, h2⟩
          · match s, h with
            | [x], _ => simp [List.isPrefixOf]
          · match s, h, h2 with
            | [x, y], _, h2 =>
              have hy : (y == c) = false := by
                cases hyc : y == c with
                | false => rfl
                | true => rw [beq_iff_eq] at hyc; subst hyc; exact absurd h2 hc
              simp [List.isPrefixOf, hy]
        rw [e, sign_one b hb]
        have n1 : ¬ ([b] ∈ twoL) := fun h => by have := (two_lens _ h).1; simp at this
        have n2 : ¬ ((b :: c :: q).take 2 ∈ twoL) := fun h => hc (two_lens _ h).2
        rw [if_neg n1, if_neg n2]
  · have e : signOf (b :: r) = [] := by
      unfold signOf
      rw [List.find?_eq_none.2 fun s hs => ?_]
      · rfl
      · obtain ⟨h, hh, hm⟩ := sign_heads s hs
        cases s with
        | nil => cases hh
        | cons x y =>
          simp only [List.head?_cons, Option.mem_def, Option.some.injEq] at hh
          subst hh
          simp only [List.isPrefixOf, Bool.and_eq_true, beq_iff_eq, not_and]
          rintro rfl
          exact absurd hm hb
    rw [e, if_neg (fun h => hb (two_fst ((b :: r).take 2) h)), if_neg (fun h => hb (one_sub b h))]
    rfl
end Go.Sx.Lx

/- The lexer's run, byte by byte. -/
namespace Go.Sx.Lx
open Go.Sx
theorem runAt_eq (s : List UInt8) (i : Nat) : run i (s.drop i) = toksF (s.length + 1) (skipTo s i) (s.drop (skipTo s i)) := by
  unfold run
  rw [List.drop_drop]
  have h := skp_le false (s.drop i)
  show toksF _ (skipTo s i) (s.drop (skipTo s i)) = _
  exact toksF_fuel _ _ _ _ (by unfold skipTo; simp only [List.length_drop]; omega) (by simp only [List.length_drop]; omega)
theorem runAt_congr {s : List UInt8} {i j : Nat} (h : skipTo s i = skipTo s j) : run i (s.drop i) = run j (s.drop j) := by rw [runAt_eq, runAt_eq, h]
theorem runAt_end {s : List UInt8} {i : Nat} (h : s.length ≤ i) : (run i (s.drop i)).1 = [] ∧ (run i (s.drop i)).2.1 = none := by
  rw [List.drop_eq_nil_of_le h]; exact ⟨rfl, rfl⟩
theorem runAt_blank {s : List UInt8} {i : Nat} (h : i < s.length) (hb : isBlank (s.getD i 0) = true) : run i (s.drop i) = run (i + 1) (s.drop (i + 1)) := by
  refine runAt_congr ?_
  rw [skipTo_blank s i, runTo_step h hb, ← skipTo_blank]
theorem runAt_cmt {s : List UInt8} {i : Nat} (h : i < s.length) (hb : s.getD i 0 = 37) : run i (s.drop i) = run (runTo inLine s i) (s.drop (runTo inLine s i)) :=
  runAt_congr (skipTo_cmt h hb)
theorem runAt_tok {s : List UInt8} {i : Nat} (h : i < s.length) (h1 : isBlank (s.getD i 0) = false) (h2 : s.getD i 0 ≠ 37) :
    ((tok (s.drop i)).2.2 = 0 → (run i (s.drop i)).1 = ((tok (s.drop i)).1, (tok (s.drop i)).2.1, (i : Int)) :: (run (i + (tok (s.drop i)).2.1.length) (s.drop (i + (tok (s.drop i)).2.1.length))).1 ∧
      (run i (s.drop i)).2.1 = (run (i + (tok (s.drop i)).2.1.length) (s.drop (i + (tok (s.drop i)).2.1.length))).2.1) ∧
    ((tok (s.drop i)).2.2 ≠ 0 → (run i (s.drop i)).2.1 = some (i, (tok (s.drop i)).2.2)) := by
  have hk : skp false (s.drop i) = 0 := by
    rw [drop_getD (d := 0) h]
    refine skp_stop ?_
    intro b hb
    simp only [List.head?_cons, Option.some.injEq] at hb
    subst hb; exact ⟨h1, h2⟩
  have hg := run_go (o := i) (l := s.drop i) (by rw [hk, List.length_drop]; omega)
  rw [hk] at hg
  simp only [List.drop_zero, Nat.add_zero, Nat.zero_add, List.drop_drop] at hg
  rw [hg]
  constructor
  · intro he; rw [if_pos he]; exact ⟨rfl, rfl⟩
  · intro he; rw [if_neg he]
/- What a token is, by its first byte. -/
theorem tok_name {s : List UInt8} {i : Nat} (h : i < s.length) (hb : (isLet (s.getD i 0) || isUnd (s.getD i 0)) = true) :
    tok (s.drop i) = ((wordK ((s.take (runTo isName s (i + 1))).drop i)).1, (s.take (runTo isName s (i + 1))).drop i, (wordK ((s.take (runTo isName s (i + 1))).drop i)).2) ∧ i + ((s.take (runTo isName s (i + 1))).drop i).length = runTo isName s (i + 1) := by
  have hn : isName (s.getD i 0) = true := by unfold isName; rw [Bool.or_eq_true] at hb; rcases hb with h | h <;> simp only [h, Bool.true_or, Bool.or_true]
  rw [← runTo_step h hn, runTo_text]
  refine ⟨?_, rfl⟩
  rw [drop_getD (d := 0) h]
  simp only [tok]
  rw [if_pos hb]
theorem dig_first : (List.range 256).all (fun n => !(isDig (UInt8.ofNat n)) || (!(isLet (UInt8.ofNat n)) && !(isUnd (UInt8.ofNat n)))) = true := by decide +kernel
theorem dig_not {b : UInt8} (h : isDig b = true) : isLet b = false ∧ isUnd b = false := by
  have := List.all_eq_true.1 dig_first b.toNat (List.mem_range.2 b.toNat_lt)
  rw [UInt8.ofNat_toNat, h] at this
  simpa using this
theorem tok_dig {s : List UInt8} {i : Nat} (h : i < s.length) (hb : isDig (s.getD i 0) = true) :
    tok (s.drop i) = (3, (s.take (runTo isDig s (i + 1))).drop i, numE ((s.take (runTo isDig s (i + 1))).drop i)) ∧ i + ((s.take (runTo isDig s (i + 1))).drop i).length = runTo isDig s (i + 1) ∧
    (s.take (runTo isDig s (i + 1))).drop i ≠ [] ∧ ((s.take (runTo isDig s (i + 1))).drop i).all isDig = true := by
  rw [← runTo_step h hb, runTo_text]
  refine ⟨?_, rfl, ?_, ?_⟩
  · rw [drop_getD (d := 0) h]
    obtain ⟨h1, h2⟩ := dig_not hb
    simp only [tok]
    rw [if_neg (by rw [h1, h2]; decide), if_pos hb]
  · rw [drop_getD (d := 0) h]
    exact List.length_pos_iff.1 (takeWhile_pos hb)
  · rw [List.all_eq_true]
    intro x hx
    exact (List.all_eq_true.1 (List.all_takeWhile (p := isDig) (l := s.drop i)) x hx)
theorem tok_dir {s : List UInt8} {i : Nat} (h : i < s.length) (hb : s.getD i 0 = 35) :
    tok (s.drop i) = (5, (s.take (runTo isLet s (i + 1))).drop i, if (s.take (runTo isLet s (i + 1))).drop i ∈ dirs then 0 else 31) ∧ i + ((s.take (runTo isLet s (i + 1))).drop i).length = runTo isLet s (i + 1) := by
  have h1 := runTo_le isLet s (i + 1)
  have h2 := runTo_len (p := isLet) (s := s) (i := i + 1) (by omega)
  have e : (s.take (runTo isLet s (i + 1))).drop i = 35 :: (s.drop (i + 1)).takeWhile isLet := by
    rw [drop_getD (d := 0) (by rw [List.length_take]; omega), runTo_text]
    congr 1
    rw [List.getD_eq_getElem?_getD, List.getElem?_take, if_pos (by omega), ← List.getD_eq_getElem?_getD]
    exact hb
  rw [e]
  refine ⟨?_, ?_⟩
  · rw [drop_getD (d := 0) h, hb]
    rfl
  · unfold runTo; rw [List.length_cons]; omega
theorem tok_sign {s : List UInt8} {i : Nat} (h : i < s.length) (h1 : (isLet (s.getD i 0) || isUnd (s.getD i 0)) = false) (h2 : isDig (s.getD i 0) = false) (h3 : s.getD i 0 ≠ 35) :
    tok (s.drop i) = (6, signOf (s.drop i), if signOf (s.drop i) = [] then 30 else 0) := by
  rw [drop_getD (d := 0) h]
  simp only [tok]
  rw [if_neg (by rw [h1]; decide), if_neg (by rw [h2]; decide), if_neg (by simp only [beq_iff_eq]; exact h3)]
/-- What the reference's Lex answers. -/
def ansR (l : List Tk) (q : List Tk × Option (Nat × Int) × Nat) : List Tk × Int × Int := match q.2.1 with
  | some (a, e) => ([], a, e)
  | none => (l ++ q.1, 0, 0)
theorem ansR_go {l : List Tk} {t : Tk} {q q' : List Tk × Option (Nat × Int) × Nat} (h1 : q.1 = t :: q'.1) (h2 : q.2.1 = q'.2.1) : ansR l q = ansR (l ++ [t]) q' := by
  unfold ansR
  rw [h2]
  cases q'.2.1 with
  | none => simp [h1]
  | some x => rfl
theorem ansR_err {l : List Tk} {q : List Tk × Option (Nat × Int) × Nat} {a : Nat} {e : Int} (h : q.2.1 = some (a, e)) : ansR l q = ([], (a : Int), e) := by
  unfold ansR; rw [h]
theorem ansR_end {l : List Tk} {q : List Tk × Option (Nat × Int) × Nat} (h1 : q.1 = []) (h : q.2.1 = none) : ansR l q = (l, 0, 0) := by
  unfold ansR; rw [h, h1]; simp
theorem rl_go {s : List UInt8} {i j : Nat} {es : List Tk} {k : Int} {T : List UInt8} (h : i < s.length) (h1 : isBlank (s.getD i 0) = false) (h2 : s.getD i 0 ≠ 37) (hk : tok (s.drop i) = (k, T, 0)) (hj : i + T.length = j) :
    ansR es (run i (s.drop i)) = ansR (es ++ [(k, T, (i : Int))]) (run j (s.drop j)) := by
  have := (runAt_tok h h1 h2).1
  rw [hk] at this
  obtain ⟨e1, e2⟩ := this rfl
  simp only [hj] at e1 e2
  exact ansR_go e1 e2
theorem rl_err {s : List UInt8} {i : Nat} {es : List Tk} {k : Int} {T : List UInt8} {e : Int} (h : i < s.length) (h1 : isBlank (s.getD i 0) = false) (h2 : s.getD i 0 ≠ 37) (hk : tok (s.drop i) = (k, T, e)) (he : e ≠ 0) :
    ansR es (run i (s.drop i)) = ([], (i : Int), e) := by
  have := (runAt_tok h h1 h2).2
  rw [hk] at this
  exact ansR_err (this he)
theorem wordK_zero {t : List UInt8} (h : (wordK t).1 = 0) : (wordK t).2 = 31 := by
  unfold wordK at h ⊢
  split at h
  · cases h
  split at h
  · cases h
  split at h
  · cases h
  · rename_i h1 h2 h3; rw [if_neg h1, if_neg h2, if_neg h3]
theorem wordK_some {t : List UInt8} (h : (wordK t).1 ≠ 0) : (wordK t).2 = 0 := by
  unfold wordK at h ⊢
  split
  · rfl
  split
  · rfl
  split
  · rfl
  · rename_i h1 h2 h3; rw [if_neg h1, if_neg h2, if_neg h3] at h; exact absurd rfl h
theorem lexR_ans (s : List UInt8) : lexR s = if 32768 < s.length then ([], 0, 3) else ansR [] (run 0 s) := by
  rw [lexR_eq]
  split
  · rfl
  · unfold ans ansR
    rcases run 0 s with ⟨l, _ | ⟨a, e⟩, p⟩ <;> rfl
end Go.Sx.Lx
