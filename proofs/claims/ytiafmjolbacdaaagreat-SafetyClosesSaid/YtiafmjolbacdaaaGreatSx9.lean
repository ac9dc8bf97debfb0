/- Own work: a layer over the kit: plain data, a walk over it, its soundness. -/
import Derived.Sort.OwnSorted
import Derived.Test.YtiafmjolbacdaaaGreatSx8
import Derived.Test.YtiafmjolbacdaaaGreatSx7
set_option linter.unusedSectionVars false
set_option linter.unusedVariables false
set_option linter.unusedSimpArgs false
set_option linter.deprecated false
/- AN OWN ROW THAT A CALL HANDS BACK IS NO MORE WRITTEN TO. -/
namespace Go.Sx
open Go.RowKit
variable [Globs] [Codes]
variable {P : Program}

def memF (φ : Mem) (g n : Nat) (xs : List Value) : Mem := fun b o => if b = g then (if o < n then xs[o]? else none) else φ b o
end Go.Sx

/- SETS OF NAMES: their order forgotten; a copy of a map. -/
namespace Go.Sx
open Go.RowKit
variable [Globs] [Codes]
variable {P : Program}
/-- One object says what another says. -/
def Ob.wk (o o' : Ob) : Prop := ∀ {own : Nat → Prop} {φ : Mem} {h : Nat → Value} {w : World} {hv : Value}, ObR own φ h w hv o → ObR own φ h w hv o'
theorem Ob.wk_refl (o : Ob) : o.wk o := fun h => h
theorem wk_set {ks ks' : List D} {z : D} (hp : ks'.Perm ks) : (Ob.gen (.mapC ks' (ks'.map fun _ => z)) []).wk (.gen (.mapS ks z) []) := by
  intro own φ h w hv ⟨b, vals, o, h1, h2, h3, h4, h5, h6, h7⟩
  exact ⟨b, vals, o, h1, h2, h3, ⟨ks', hp, h4⟩, h5, h6, h7⟩
/-- Objects, one by one. -/
def Obs.wk (a b : Obs) : Prop := ∀ i, (lk a i = none ∧ lk b i = none) ∨ ∃ o o', lk a i = some o ∧ lk b i = some o' ∧ o.wk o'
theorem Obs.wk_refl (a : Obs) : Obs.wk a a := fun i => by
  cases h : lk a i with
  | none => exact .inl ⟨rfl, rfl⟩
  | some o => exact .inr ⟨o, o, rfl, rfl, Ob.wk_refl o⟩
theorem Obs.wk_cons {i : Nat} {o o' : Ob} {a b : Obs} (h : o.wk o') (hr : Obs.wk a b) : Obs.wk ((i, o) :: a) ((i, o') :: b) := fun j => by
  simp only [lk]
  by_cases hj : j = i
  · rw [if_pos hj, if_pos hj]; exact .inr ⟨o, o', rfl, rfl, h⟩
  · rw [if_neg hj, if_neg hj]; exact hr j
theorem Obs.wk_some {a b : Obs} (h : Obs.wk a b) (i : Nat) : (lk b i).isSome = (lk a i).isSome := by
  rcases h i with ⟨h1, h2⟩ | ⟨o, o', h1, h2, _⟩ <;> rw [h1, h2] <;> rfl
theorem Loc.wk {own : Nat → Prop} {a b : Obs} {φ : Mem} {h : Nat → Value} {w : World} (hw : Obs.wk a b) (hl : Loc own a φ h w) : Loc own b φ h w :=
  ⟨hl.one, hl.glob.sub fun x ⟨i, hi, hb⟩ => ⟨i, by rw [← Obs.wk_some hw]; exact hi, hb⟩, hl.mem, fun i o ho => by
    rcases hw i with ⟨_, h2⟩ | ⟨o1, o2, h1, h2, h3⟩
    · rw [h2] at ho; cases ho
    · rw [h2] at ho; cases ho; exact h3 (hl.obj i o1 h1), fun i j x hi hj => hl.sep i j x (by rw [← Obs.wk_some hw]; exact hi) (by rw [← Obs.wk_some hw]; exact hj)⟩
/-- What a call leaves may be told with less. -/
theorem CallL.wk {d : D} {args : List D} {ob : Obs} {R R' : D → Obs → Prop} (h : CallL P d args ob R) (hw : ∀ r o, R r o → ∃ o', R' r o' ∧ Obs.wk o o') : CallL P d args ob R' := by
  intro F hF n φ hh w v vs hp hv hvs
  refine (h F hF n φ hh w v vs hp hv hvs).mono ?_
  rintro e w' ⟨r, o, φ', h', he, hR, ha⟩
  obtain ⟨o', hR', hk⟩ := hw r o hR
  exact ⟨r, o', φ', h', he, hR', ⟨ha.loc.wk hk, ha.ext, ha.new, ha.frame, ha.hfix, ha.os, ha.tape, ha.output, ha.grow⟩⟩
/-- A set whose order is not known has some order. -/
theorem set_some {own : Nat → Prop} {φ : Mem} {h : Nat → Value} {w : World} {hv : Value} {ks : List D} {z : D} (hob : ObR own φ h w hv (.gen (.mapS ks z) [])) : ∃ ks' : List D, ks'.Perm ks ∧ ObR own φ h w hv (.gen (.mapC ks' (ks'.map fun _ => z)) []) := by
  obtain ⟨b, vals, o, h1, h2, h3, ⟨ks', hp, h4⟩, h5, h6, h7⟩ := hob
  exact ⟨ks', hp, b, vals, o, h1, h2, h3, h4, h5, h6, h7⟩
/-- A call with such a set as its first object. -/
theorem CallL.ofS {d : D} {args : List D} {ks : List D} {z : D} {i : Nat} {ob : Obs} {R : D → Obs → Prop} (H : ∀ ks' : List D, ks'.Perm ks → CallL P d args ((i, .gen (.mapC ks' (ks'.map fun _ => z)) []) :: ob) R) : CallL P d args ((i, .gen (.mapS ks z) []) :: ob) R := by
  intro F hF n φ hh w v vs hp hv hvs
  obtain ⟨ks', hpm, hob⟩ := set_some (hp.obj i (.gen (.mapS ks z) []) (by simp [lk]))
  have hsome : ∀ j, (lk ((i, Ob.gen (.mapC ks' (ks'.map fun _ => z)) []) :: ob) j).isSome = (lk ((i, Ob.gen (.mapS ks z) []) :: ob) j).isSome := fun j => by
    simp only [lk]
    split <;> rfl
  have hZ : ∀ b, ZOf ((i, Ob.gen (.mapC ks' (ks'.map fun _ => z)) []) :: ob) hh b ↔ ZOf ((i, Ob.gen (.mapS ks z) []) :: ob) hh b := fun b => by
    constructor <;> rintro ⟨j, hj, hb⟩
    · exact ⟨j, by rw [← hsome]; exact hj, hb⟩
    · exact ⟨j, by rw [hsome]; exact hj, hb⟩
  have hl : Loc (fun _ => True) ((i, .gen (.mapC ks' (ks'.map fun _ => z)) []) :: ob) φ hh w := by
    refine ⟨hp.one, hp.glob.sub fun b hb => (hZ b).1 hb, hp.mem, fun j o ho => ?_, fun j k b hj hk => hp.sep j k b (by rw [← hsome]; exact hj) (by rw [← hsome]; exact hk)⟩
    simp only [lk] at ho
    split at ho
    · rename_i e; subst e; cases ho; exact hob
    · rename_i e
      exact hp.obj j o (by simp only [lk]; rw [if_neg e]; exact ho)
  refine (H ks' hpm F hF n φ hh w v vs hl hv hvs).mono ?_
  rintro e w' ⟨r, o, φ', h', he, hR, ha⟩
  exact ⟨r, o, φ', h', he, hR, ⟨⟨ha.loc.one, ha.loc.glob, ha.loc.mem, fun j o ho => (ha.loc.obj j o ho).keep (fun b hb => hb.imp id (hZ b).1) (fun _ _ => rfl) (fun _ _ _ h => h) (fun _ _ _ => rfl) (fun _ _ _ h => h), ha.loc.sep⟩, ha.ext, fun b o v h1 h2 => (ha.new b o v h1 h2).imp id (hZ b).1, fun b hb hz => ha.frame b hb fun h => hz ((hZ b).1 h), fun j hj => ha.hfix j (by rw [hsome]; exact hj), ha.os, ha.tape, ha.output, ha.grow⟩⟩
/-- maps.Clone of a map whose elements name no object. -/
theorem CallL.clone {f : FuncId} (hpf : pureF P f = true) (H : ∀ (b : Nat) (es : Array MapEntry) (clock : Nat) (w : World), w.heap[b]? = some (.map es clock) → Calls P f #[.map (some b)] w fun e w' => e = .returned (.map (some w.heap.size)) ∧ w' = w.alloc (.map es clock)) (ks cs : List D) :
    CallL P (.func (.func f) [] []) [.map 0] [(0, .gen (.mapC ks cs) [])] fun r ob => r = .map 1 ∧ ob = [(0, .gen (.mapC ks cs) []), (1, .gen (.mapC ks cs) [])] := by
  intro F hF n φ h w v vs hp hv hvs
  obtain ⟨va, vc, rfl, hva, hvc⟩ : ∃ va vc, v = .func (.func f) va vc ∧ va.size = 0 ∧ vc.size = 0 := by
    cases hv with
    | pure hr => cases hr
    | func _ vf vc _ _ hf hc _ _ => exact ⟨vf, vc, rfl, hf, hc⟩
  obtain ⟨u, rfl, hu⟩ := vs1 hvs
  obtain ⟨rfl, hlive⟩ := hu.map_inv
  rw [run_callv_func hpf]
  have ea : va = #[] := by simpa using hva
  have ec : vc = #[] := by simpa using hvc
  subst ea; subst ec
  simp only [Array.empty_append, Array.append_empty, DynOut]
  have hob := hp.obj 0 _ rfl
  obtain ⟨b, vals, o, hblk, _, hheap, ⟨hv0, hall, ⟨b', hb'⟩, es, clock, rfl, h1, h2, h3, h4⟩, hlen, _, hnone⟩ := hob
  have hob := hp.obj 0 _ rfl
  rw [hb'] at hblk
  cases hblk
  rw [hb']
  refine hF.calls ((H b es clock w hheap).mono ?_) n
  rintro e w' ⟨rfl, rfl⟩
  have hbl : b < w.heap.size := (Array.getElem?_eq_some_iff.1 hheap).1
  have hnew : (w.alloc (.map es clock)).heap[w.heap.size]? = some (.map es clock) := heap_alloc_new w _
  have hold : ∀ c, c < w.heap.size → (w.alloc (.map es clock)).heap[c]? = w.heap[c]? := fun c hc => by
    simp only [World.alloc]
    exact Array.getElem?_push_lt hc ▸ (Array.getElem?_eq_getElem hc).symm
  have hh1 : updH h 1 (.map (some w.heap.size)) 1 = .map (some w.heap.size) := upd_same ..
  have hh0 : updH h 1 (.map (some w.heap.size)) 0 = .map (some b) := by rw [upd_other _ _ (by decide)]; exact hb'
  have hφn : ∀ off, φ w.heap.size off = none := fun off => by
    cases hq : φ w.heap.size off with
    | none => rfl
    | some u => exact absurd (Sub.lt (w := w) hp.mem hq) (Nat.lt_irrefl _)
  have hsz : w.heap.size ≤ (w.alloc (.map es clock)).heap.size := Nat.le_of_lt (Array.getElem?_eq_some_iff.1 hnew).1
  have hZ0 : ZOf [(0, Ob.gen (.mapC ks cs) [])] h b := ⟨0, rfl, by rw [hb']; rfl⟩
  have hlt : ∀ g o, w.heap[g]? = some o → (w.alloc (.map es clock)).heap[g]? = some o := fun g o hg => by rw [hold g (Array.getElem?_eq_some_iff.1 hg).1, hg]
  have hZn : ∀ g, ZOf [(0, Ob.gen (.mapC ks cs) []), (1, Ob.gen (.mapC ks cs) [])] (updH h 1 (.map (some w.heap.size))) g → ZOf [(0, Ob.gen (.mapC ks cs) [])] h g ∨ g = w.heap.size := by
    rintro g ⟨i, hi, hg⟩
    match i, hi with
    | 0, _ => exact .inl ⟨0, rfl, by rw [upd_other _ _ (by decide)] at hg; exact hg⟩
    | 1, _ => rw [hh1] at hg; exact .inr (by simpa [blk] using hg.symm)
    | i + 2, hi => simp [lk] at hi
  refine .ret ⟨rfl, rfl⟩ (φ' := φ) (h' := updH h 1 (.map (some w.heap.size))) ?_ ⟨⟨fun i => ?_, ⟨hp.glob.ok, fun g' arr hx => ?_, fun g' hx => ?_⟩, fun b o u hu => ?_, fun i ob hob' => ?_, fun i j c hi hj hbi hbj => ?_⟩, fun _ _ _ h => h, fun b o u h1 h2 => (by rw [h1] at h2; cases h2), fun b hb _ => hold b hb, fun i hi => ?_, rfl, rfl, rfl, hsz⟩
  · have := RV.map (φ := φ) (h := updH h 1 (.map (some w.heap.size))) 1 (by rw [hh1]; rfl)
    rw [hh1] at this
    exact this
  · by_cases hi : i = 1
    · subst hi; rw [hh1]; rfl
    · rw [upd_other _ _ hi]; exact hp.one i
  · obtain ⟨⟨ty', fr, hw⟩, hz⟩ := hp.glob.x g' arr hx
    exact ⟨⟨ty', fr, hlt _ _ hw⟩, fun hz' => (hZn _ hz').elim hz fun e => by have := (Array.getElem?_eq_some_iff.1 hw).1; omega⟩
  · obtain ⟨⟨arr, ty', fr, q, hw, ha⟩, hz⟩ := hp.glob.i g' hx
    exact ⟨⟨arr, ty', fr, q, hlt _ _ hw, ha⟩, fun hz' => (hZn _ hz').elim hz fun e => by have := (Array.getElem?_eq_some_iff.1 hw).1; omega⟩
  · have hl : b < w.heap.size := Sub.lt (w := w) hp.mem hu
    rw [World.cell?_of_block (a := ⟨b, o, none⟩) (hold b hl)]
    exact hp.mem b o u hu
  · match i, hob' with
    | 0, hob' =>
      cases hob'
      rw [hh0]
      exact ⟨b, vals, _, rfl, .inr hZ0, hlt _ _ hheap, ⟨hv0, hall, ⟨_, rfl⟩, es, clock, rfl, h1, h2, h3, h4⟩, hlen, fun j d hd => by simp at hd, hnone⟩
    | 1, hob' =>
      cases hob'
      rw [hh1]
      exact ⟨w.heap.size, vals, _, rfl, .inl (Nat.le_refl _), hnew, ⟨hv0, hall, ⟨_, rfl⟩, es, clock, rfl, h1, h2, h3, h4⟩, hlen, fun j d hd => by simp at hd, hφn⟩
    | i + 2, hob' => simp [lk] at hob'
  · match i, j, hi, hj with
    | 0, 0, _, _ => rfl
    | 1, 1, _, _ => rfl
    | 0, 1, _, _ => rw [hh0] at hbi; rw [hh1] at hbj; simp only [blk, Option.some.injEq] at hbi hbj; omega
    | 1, 0, _, _ => rw [hh1] at hbi; rw [hh0] at hbj; simp only [blk, Option.some.injEq] at hbi hbj; omega
    | i + 2, _, hi, _ => simp [lk] at hi
    | _, j + 2, _, hj => simp [lk] at hj
  · have : i ≠ 1 := fun e => by rw [e] at hi; simp [lk] at hi
    exact upd_other _ _ this
end Go.Sx

/- Terms: plain, ground, their depth. -/
namespace Go.Sx
def Tm.plain : Tm → Bool
  | .mk k _ _ _ => decide (k = 1) || decide (k = 2) || decide (k = 4)
def Tm.gr : Tm → Bool
  | .mk k _ _ _ => !decide (k = 3)
def Tm.value (t : Tm) : Bool := t.all Tm.plain && t.valid
end Go.Sx

/- A term and its parts. -/
namespace Go.Sx
mutual
theorem sz_vs : ∀ (t : Tm) (m : Int), t.sz m ≤ m → (t.vs.length : Int) ≤ m
  | .mk k n s l, m, h => by
    simp only [Tm.sz] at h
    have := szL_vs l (m - 1) 0 (by omega)
    have h1 : (Tm.v1 (.mk k n s l)).length ≤ 1 := by
      simp only [Tm.v1]
      split <;> simp
    simp only [Tm.vs, List.length_append]
    omega
theorem szL_vs : ∀ (l : List Tm) (m n : Int), Tm.szL l m n ≤ m → ((Tm.vsL l).length : Int) ≤ m - n
  | [], m, n, h => by
    simp only [Tm.szL] at h
    simp only [Tm.vsL, List.length_nil]
    omega
  | a :: r, m, n, h => by
    simp only [Tm.szL] at h
    simp only [Tm.vsL, List.length_append]
    split at h
    · have h0 := szL_ge r m (n + a.sz (m - n))
      have h1 := sz_vs a (m - n) (by omega)
      have h4 := sz_ge a (m - n)
      have h2 := szL_vs r m (n + a.sz (m - n)) h
      have h3 := sz_vs2 a (m - n) (by omega)
      omega
    · omega
theorem sz_vs2 : ∀ (t : Tm) (m : Int), t.sz m ≤ m → (t.vs.length : Int) ≤ t.sz m
  | .mk k n s l, m, h => by
    simp only [Tm.sz] at h ⊢
    have := szL_vs2 l (m - 1) 0 (by omega)
    have h1 : (Tm.v1 (.mk k n s l)).length ≤ 1 := by
      simp only [Tm.v1]
      split <;> simp
    simp only [Tm.vs, List.length_append]
    omega
theorem szL_vs2 : ∀ (l : List Tm) (m n : Int), Tm.szL l m n ≤ m → ((Tm.vsL l).length : Int) ≤ Tm.szL l m n - n
  | [], m, n, h => by
    simp only [Tm.szL] at h ⊢
    simp only [Tm.vsL, List.length_nil]
    omega
  | a :: r, m, n, h => by
    simp only [Tm.szL] at h ⊢
    simp only [Tm.vsL, List.length_append]
    split at h
    · rename_i hc
      rw [if_pos hc]
      have h0 := szL_ge r m (n + a.sz (m - n))
      have h2 := szL_vs2 r m (n + a.sz (m - n)) h
      have h3 := sz_vs2 a (m - n) (by omega)
      omega
    · omega
end
def vL (l : List Tm) : List (List UInt8) := (l.map Tm.V).flatten
def n7 : Tm := .mk 1 7 [] []
end Go.Sx

/- SAFETY, PLAIN: sizes of literals. -/
namespace Go.Sx
def szLt (x : Lt) (m : Int) : Int := 1 + (1 + Tm.szL x.a (m - 1) 0) + x.l.sz m + x.r.sz m
def szLts : List Lt → Int → Int → Int
  | [], _, n => n
  | x :: r, m, n => if n ≤ m then szLts r m (n + szLt x (m - n)) else n
theorem szLt_ge (x : Lt) (m : Int) : 4 ≤ szLt x m := by
  have h1 := szL_ge x.a (m - 1) 0
  have h2 := sz_ge x.l m
  have h3 := sz_ge x.r m
  unfold szLt
  omega
theorem szLts_ge : ∀ (l : List Lt) (m n : Int), n ≤ szLts l m n
  | [], m, n => Int.le_refl _
  | x :: r, m, n => by
    unfold szLts
    split
    · have h1 := szLts_ge r m (n + szLt x (m - n))
      have h2 := szLt_ge x (m - n)
      omega
    · exact Int.le_refl _
/-- A literal of this size at most. -/
def Lt.few (N : Int) (x : Lt) : Prop := ((Tm.vsL x.a).length : Int) ≤ N ∧ (x.l.vs.length : Int) ≤ N ∧ (x.r.vs.length : Int) ≤ N
theorem szLt_few {x : Lt} {m : Int} (h : szLt x m ≤ m) : x.few m ∧ (x.pool.length : Int) + 2 ≤ szLt x m := by
  have h1 := szL_ge x.a (m - 1) 0
  have h2 := sz_ge x.l m
  have h3 := sz_ge x.r m
  unfold szLt at h ⊢
  have h4 := szL_vs2 x.a (m - 1) 0 (by omega)
  have h5 := sz_vs2 x.l m (by omega)
  have h6 := sz_vs2 x.r m (by omega)
  have h7 : (Tm.ovL x.a).length ≤ (Tm.vsL x.a).length := ovL_len x.a
  refine ⟨⟨by omega, by omega, by omega⟩, ?_⟩
  simp only [Lt.pool, List.length_append, List.length_cons, List.length_nil]
  omega
theorem few_mono {x : Lt} {a b : Int} (h : x.few a) (hab : a ≤ b) : x.few b := ⟨Int.le_trans h.1 hab, Int.le_trans h.2.1 hab, Int.le_trans h.2.2 hab⟩
theorem szLts_few : ∀ (l : List Lt) (m n : Int), 0 ≤ n → szLts l m n ≤ m → (∀ x ∈ l, x.few m) ∧ n + l.length + (l.flatMap Lt.pool).length ≤ szLts l m n
  | [], m, n, _, h => ⟨fun x hx => (by cases hx), by simp [szLts]⟩
  | x :: r, m, n, hn, h => by
    unfold szLts at h ⊢
    split at h
    · rename_i hc
      rw [if_pos hc]
      have h1 := szLts_ge r m (n + szLt x (m - n))
      have h2 := szLt_ge x (m - n)
      have h3 := szLt_few (x := x) (m := m - n) (by omega)
      have h4 := szLts_few r m (n + szLt x (m - n)) (by omega) h
      refine ⟨fun y hy => ?_, ?_⟩
      · rcases List.mem_cons.1 hy with rfl | hy
        · exact few_mono h3.1 (by omega)
        · exact h4.1 y hy
      · rw [List.length_cons, List.flatMap_cons, List.length_append]
        omega
    · omega
theorem closeS_len {s : List Nm} (ls : List Lt) (h : s.Nodup) : (closeS s ls).length ≤ s.length + (ls.flatMap Lt.pool).length := by
  have hT : ∀ (n : Nat) (s : List Nm), ∀ y ∈ closeN n s ls, y ∈ s ++ ls.flatMap Lt.pool := by
    intro n
    induction n with
    | zero => intro s y hy; exact List.mem_append_left _ hy
    | succ n ih =>
      intro s y hy
      unfold closeN at hy
      have hr : ∀ z ∈ roundS s ls, z ∈ s ++ ls.flatMap Lt.pool := fun z hz => List.mem_append.2 (roundS_sub ls hz)
      split at hy
      · exact hr y hy
      · rcases List.mem_append.1 (ih _ y hy) with h1 | h1
        · exact hr y h1
        · exact List.mem_append_right _ h1
  have := List.Nodup.length_le_of_subset (closeS_nd ls h) (l₂ := s ++ ls.flatMap Lt.pool) (fun y hy => hT _ s y hy)
  rw [List.length_append] at this
  exact this
end Go.Sx

/- RULES, PLAIN: their variables, those that are not bound. -/
namespace Go.Sx
structure El where
  t : List Tm
  c : List Lt
structure He where
  p : Nm
  a : List Tm
  c : List Lt
structure Bo where
  k : Nat
  l : Lt
  c : List Lt
  no : Bool
  f : Nat
  e : List El
  op : Nat
  b : Tm
structure Ru where
  k : Nat
  h : List He
  lo : Tm
  up : Tm
  b : List Bo
  w : Tm
  lv : Tm
  t : List Tm
def El.cs (x : El) : List D := [.slice (Tm.cellsL x.t) [], .slice (ltL x.c) []]
def He.cs (x : He) : List D := [.str x.p, .slice (Tm.cellsL x.a) [], .slice (ltL x.c) []]
def elL (l : List El) : List (List D) := l.map El.cs
def heL (l : List He) : List (List D) := l.map He.cs
def Bo.cs (x : Bo) : List D := .int .u8 x.k :: (x.l.c ++ .slice (ltL x.c) [] :: .bool x.no :: .int .u8 x.f :: .slice (elL x.e) [] :: .int .u8 x.op :: x.b.cells)
def boL (l : List Bo) : List (List D) := l.map Bo.cs
def Ru.cs (x : Ru) : List D := .int .u8 x.k :: .slice (heL x.h) [] :: (x.lo.cells ++ (x.up.cells ++ .slice (boL x.b) [] :: (x.w.cells ++ (x.lv.cells ++ [.slice (Tm.cellsL x.t) []]))))
theorem elL_len (l : List El) : (elL l).length = l.length := by simp [elL]
theorem heL_len (l : List He) : (heL l).length = l.length := by simp [heL]
theorem boL_len (l : List Bo) : (boL l).length = l.length := by simp [boL]
theorem elL_get {l : List El} {i : Nat} (h : i < l.length) : (elL l)[i]? = some l[i].cs := by simp [elL, h]
theorem heL_get {l : List He} {i : Nat} (h : i < l.length) : (heL l)[i]? = some l[i].cs := by simp [heL, h]
theorem boL_get {l : List Bo} {i : Nat} (h : i < l.length) : (boL l)[i]? = some l[i].cs := by simp [boL, h]
/-- The terms of literals. -/
def withinT (l : List Lt) : List Tm := l.flatMap fun x => x.a ++ [x.l, x.r]
/-- The variables of terms, one after another. -/
def varsL (l : List Tm) : List Nm := l.flatMap Tm.W
def varsW (l : List Lt) : List Nm := varsL (withinT l)
def gHead (k : Nat) (s : List Nm) (x : He) : List Nm := if k = 2 then s else addS (addS s (varsL x.a)) (varsW x.c)
def gBody (s : List Nm) (x : Bo) : List Nm := if x.k = 1 then addS s (varsW [x.l]) else if x.k = 3 then addS s (varsL [x.b]) else s
/-- The global variables. -/
def globalS (r : Ru) : List Nm := r.b.foldl gBody (r.h.foldl (gHead r.k) (addS (addS [] (varsL [r.lo, r.up, r.w, r.lv])) (varsL r.t)))
/-- Those that are not bound, added. -/
def ckS (u names bd : List Nm) : List Nm := addS u (names.filter fun x => !decide (x ∈ bd))
def elemS (g u : List Nm) (c : List Lt) (names : List Nm) : List Nm := ckS (ckS u names (closeS g c)) (varsW c) (closeS g c)
def uElem (g u : List Nm) (x : El) : List Nm := elemS g u x.c (varsL x.t)
def uBody (g : List Nm) (p : List Nm × List Lt) (x : Bo) : List Nm × List Lt := if x.k = 1 then (p.1, p.2 ++ [x.l]) else if x.k = 2 then (elemS g p.1 x.c (varsW [x.l]), p.2) else if x.k = 3 then (x.e.foldl (uElem g) p.1, p.2) else p
def uHead (k : Nat) (g u : List Nm) (x : He) : List Nm := if k = 2 then elemS g u x.c (varsL x.a) else u
/-- The unsafe variables. -/
def unsafeS (r : Ru) : List Nm := ckS (r.h.foldl (uHead r.k (globalS r)) (r.b.foldl (uBody (globalS r)) ([], [])).1) (globalS r) (closeS [] (r.b.foldl (uBody (globalS r)) ([], [])).2)
theorem ckS_nd {u names bd : List Nm} (h : u.Nodup) : (ckS u names bd).Nodup := addS_nd h
theorem elemS_nd {g u : List Nm} {c : List Lt} {names : List Nm} (h : u.Nodup) : (elemS g u c names).Nodup := ckS_nd (ckS_nd h)
theorem gHead_nd (k : Nat) : ∀ (l : List He) {s : List Nm}, s.Nodup → (l.foldl (gHead k) s).Nodup
  | [], s, h => h
  | x :: r, s, h => gHead_nd k r (by unfold gHead; split; exact h; exact addS_nd (addS_nd h))
theorem gBody_nd : ∀ (l : List Bo) {s : List Nm}, s.Nodup → (l.foldl gBody s).Nodup
  | [], s, h => h
  | x :: r, s, h => gBody_nd r (by unfold gBody; split; exact addS_nd h; split; exact addS_nd h; exact h)
theorem globalS_nd (r : Ru) : (globalS r).Nodup := gBody_nd _ (gHead_nd _ _ (addS_nd (addS_nd List.nodup_nil)))
theorem uElem_nd (g : List Nm) : ∀ (l : List El) {u : List Nm}, u.Nodup → (l.foldl (uElem g) u).Nodup
  | [], u, h => h
  | x :: r, u, h => uElem_nd g r (elemS_nd h)
theorem uBody_nd (g : List Nm) : ∀ (l : List Bo) {p : List Nm × List Lt}, p.1.Nodup → (l.foldl (uBody g) p).1.Nodup
  | [], p, h => h
  | x :: r, p, h => uBody_nd g r (by unfold uBody; split; exact h; split; exact elemS_nd h; split; exact uElem_nd g _ h; exact h)
theorem uHead_nd (k : Nat) (g : List Nm) : ∀ (l : List He) {u : List Nm}, u.Nodup → (l.foldl (uHead k g) u).Nodup
  | [], u, h => h
  | x :: r, u, h => uHead_nd k g r (by unfold uHead; split; exact elemS_nd h; exact h)
theorem unsafeS_nd (r : Ru) : (unsafeS r).Nodup := ckS_nd (uHead_nd _ _ _ (uBody_nd _ _ List.nodup_nil))
theorem ckS_mem {u names bd : List Nm} {x : Nm} : x ∈ ckS u names bd ↔ x ∈ u ∨ (x ∈ names ∧ x ∉ bd) := by
  unfold ckS
  rw [addS_mem, List.mem_filter]
  simp
theorem ckS_perm {u q g bd : List Nm} (hu : u.Nodup) (h : q.Perm g) : (ckS u q bd).Perm (ckS u g bd) :=
  (List.perm_ext_iff_of_nodup (ckS_nd hu) (ckS_nd hu)).2 fun x => by rw [ckS_mem, ckS_mem, h.mem_iff]
theorem ckS_cons (u : List Nm) (x : Nm) (r bd : List Nm) : ckS u (x :: r) bd = if x ∈ bd then ckS u r bd else ckS (insS u x) r bd := by
  unfold ckS
  by_cases h : x ∈ bd
  · rw [if_pos h, List.filter_cons_of_neg (by simp [h])]
  · rw [if_neg h, List.filter_cons_of_pos (by simp [h])]; rfl
theorem ckS_app (u a b bd : List Nm) : ckS u (a ++ b) bd = ckS (ckS u a bd) b bd := by
  unfold ckS
  rw [List.filter_append, addS_app]
end Go.Sx

/- A range over a function, a call: where what comes back is not one thing alone. -/
namespace Go.Sx
open Go.RowKit
variable [Globs] [Codes]
variable {P : Program}
theorem swF_rngF {n bs N : Nat} {g : X} {ps : Array Tmp} {a b : SC} {K : List Fr} {s : St} {Q : Exit → St → Prop} (nm : List Nat) (R : D → Obs → Prop) (hnd : nm.Nodup)
    (hin : ∀ i ∈ nm, (lk ((s.nx bs, recd P .ready none N ps a b s.tm) :: s.ob) i).isSome) (hf : ∃ f fa fc, s.get g = .func (.func f) fa fc ∧ pureF P f = true)
    (hc : CallL P ((s.get g).ren (idx · nm)) [(D.yld (s.nx bs)).ren (idx · nm)] (handO ((s.nx bs, recd P .ready none N ps a b s.tm) :: s.ob) (idx · nm) 0 nm) R)
    (hk : ∀ r ob', R r ob' → r.isPan = false ∧ (∃ ps' asg body N' keys ds, lk (St.back ⟨s.tm, (s.nx bs, recd P .ready none N ps a b s.tm) :: s.ob⟩ (s.nx bs + 1) nm ob').ob (s.nx bs) = some (.gen (.loop .ready none ps' asg body N' keys) ds)) ∧
      swF P n bs K ⟨s.tm, eraseId (s.nx bs) (St.back ⟨s.tm, (s.nx bs, recd P .ready none N ps a b s.tm) :: s.ob⟩ (s.nx bs + 1) nm ob').ob⟩ Q) : swF P (n + 1) bs (.sc (.rangeF N g ps a b) :: K) s Q := by
  refine ⟨nm, R, hnd, hin, hf, hc, fun r ob' hr => ?_⟩
  obtain ⟨hp, ⟨ps', asg, body, N', keys, ds, hl⟩, h⟩ := hk r ob' hr
  exact .inr ⟨hp, .ready, none, ps', asg, body, N', keys, ds, hl, by decide, h⟩
/-- A region whose last operation but moves is a call. -/
theorem swF_reg {n bs : Nat} {ops : List SOp} {K : List Fr} {s : St} {Q : Exit → St → Prop} (h : stps P (s.nx bs) ops s fun s' => swF P n bs K s' Q) : swF P (n + 1) bs (.sc (.reg ops) :: K) s Q := h
theorem stps_mv {bs d : Nat} {x : X} {r : List SOp} {s : St} {K : St → Prop} (h : stps P bs r (s.put (some d) (s.get x)) K) : stps P bs (.a (some d) none .mv [x] :: r) s K := h
theorem stps_cd {bs : Nat} {dst : Option Nat} {x : X} {xs : List X} {r : List SOp} {s : St} {K : St → Prop} (nm : List Nat) (R : D → Obs → Prop) (hnd : nm.Nodup) (hin : ∀ i ∈ nm, (lk s.ob i).isSome)
    (hc : CallL P ((s.get x).ren (idx · nm)) ((xs.map fun y => dva (s.get x) (lk s.ob) (s.get y)).map (D.ren (idx · nm))) (handO s.ob (idx · nm) 0 nm) R)
    (hk : ∀ r0 ob', R r0 ob' → r0.isPan = false ∧ stps P bs r ((s.back (s.base bs) nm ob').put dst (r0.ren (bkN (s.base bs) nm))) K) : stps P bs (.cd dst none x xs :: r) s K :=
  ⟨nm, R, s.base bs, hnd, hin, Nat.le_max_left .., Nat.le_max_right .., hc, hk⟩
end Go.Sx

/- ARITHMETIC, PLAIN. -/
namespace Go.Sx
def fitsB (n : Int) : Bool := decide (-2147483647 ≤ n) && decide (n ≤ 2147483647)
/-- An operation of two operands, ahead of the look at its size. -/
def calc0 (op : List UInt8) (a b : Int) : Option Int :=
  if op = [43] then some (a + b) else if op = [45] then some (a - b) else if op = [42] then some (a * b)
  else if op = [47] then (if b = 0 then none else some (a.tdiv b)) else if op = [92] then (if b = 0 then none else some (a.tmod b)) else none
def fitO (o : Option Int) : Option Int := match o with
  | some n => if fitsB n = true then some n else none
  | none => none
/-- arith.Calc -/
def calcR (op : List UInt8) (l : List Int) : Option Int := if l.all fitsB = true then (match l with
  | [a] => if op = [45] then some (-a) else none
  | [a, b] => fitO (calc0 op a b)
  | _ => none) else none
/-- A number, and whether there is one. -/
def resT (o : Option Int) : D := .tuple [.int .i64 (o.getD 0), .bool o.isSome]
end Go.Sx

/- ALL ROWS OF LISTS, PLAIN. -/
namespace Go.Sx
/-- A new number behind, if it is not there. -/
def insI (n : Int) (acc : List Int) : List Int := if n ∈ acc then acc else acc ++ [n]
def intD (l : List Int) : List D := l.map (.int .i64)
/-- What a row of operands adds. -/
def opB (s : List UInt8) (row acc : List Int) : List Int := match calcR s row with
  | some n => insI n acc
  | none => acc
/-- A fold over the rows, the row filled from the k-th place on. -/
def fillS {α β : Type} (f : List α → β → β) : List (List α) → Nat → List α × β → List α × β
  | [], _, p => (p.1, f p.1 p.2)
  | l :: ls, k, p => l.foldl (fun p x => fillS f ls (k + 1) (p.1.set k x, p.2)) p
/-- The rows, in their order. -/
def prodL {α : Type} : List (List α) → List (List α)
  | [] => [[]]
  | l :: ls => l.flatMap fun x => (prodL ls).map (x :: ·)
/-- A number's term. -/
def numT (n : Int) : Tm := .mk 1 n [] []
def numC (l : List Int) : List (List D) := l.map fun n => [.int .u8 1, .int .i64 n, .str [], .slice [] []]
def Tm.int? : Tm → Option Int
  | .mk k n _ _ => if k = 1 then some n else none
def intsT (l : List Tm) : List Int := l.filterMap Tm.int?
theorem full_ix {n : Nat} {ix : List Nat} (hnd : ix.Nodup) (hlt : ∀ i ∈ ix, i < n) (hl : n ≤ ix.length) (i : Nat) (hi : i < n) : i ∈ ix := by
  by_cases h : i ∈ ix
  · exact h
  · have := List.Nodup.length_le_of_subset (List.nodup_cons.2 ⟨h, hnd⟩) (l₂ := List.range n) (fun j hj => by
      rcases List.mem_cons.1 hj with rfl | hj
      · exact List.mem_range.2 hi
      · exact List.mem_range.2 (hlt j hj))
    simp at this
    omega
end Go.Sx

/- LITERALS AND TEXTS ARE READ. -/
namespace Go.Sx
open Go.RowKit Go.Deep Go.ChangeShapes Go.WideShapes
def tmSh : List ShT := [.int .u8, .int .i64, .str, .tms]
def litSh : List ShT := .int .u8 :: .bool :: .str :: .tms :: .int .u8 :: (tmSh ++ tmSh)
theorem fitsT_app {B : Nat} : ∀ {l m : List ShT} {ds : List D}, ShT.fits B (l ++ m) ds → ∃ a b, ds = a ++ b ∧ ShT.fits B l a ∧ ShT.fits B m b
  | [], m, ds, h => ⟨[], ds, rfl, rfl, h⟩
  | s :: r, m, ds, h => by
    simp only [List.cons_append, ShT.fits] at h
    obtain ⟨d, t, rfl, h1, h2⟩ := h
    obtain ⟨a, b, rfl, h3, h4⟩ := fitsT_app h2
    exact ⟨d :: a, b, rfl, ⟨d, a, rfl, h1, h3⟩, h4⟩
theorem tm_of {B : Nat} {ds : List D} (h : ShT.fits B tmSh ds) : ∃ t : Tm, t.wf B ∧ ds = t.cells := by
  simp only [tmSh, ShT.fits, ShT.fit] at h
  obtain ⟨_, _, rfl, ⟨k, rfl, hk⟩, _, _, rfl, ⟨n, rfl, hn⟩, _, _, rfl, ⟨s, rfl, hs⟩, _, _, rfl, ⟨l, rfl, hl, hw⟩, rfl⟩ := h
  have h1 := wf_u8 hk
  have h2 := wf_i64 hn
  refine ⟨.mk k.toNat n s l, ⟨by omega, h2.1, h2.2, hs, hl, hw⟩, ?_⟩
  simp only [Tm.cells]
  rw [Int.toNat_of_nonneg h1.1]
theorem lit_of {B : Nat} {ds : List D} (h : ShT.fits B litSh ds) : ∃ x : Lt, x.wf B ∧ ds = x.c := by
  simp only [litSh, ShT.fits, ShT.fit] at h
  obtain ⟨_, _, rfl, ⟨k, rfl, hk⟩, _, _, rfl, ⟨no, rfl⟩, _, _, rfl, ⟨p, rfl, hp⟩, _, _, rfl, ⟨a, rfl, ha, haw⟩, _, _, rfl, ⟨op, rfl, hop⟩, h⟩ := h
  obtain ⟨c1, c2, rfl, h1, h2⟩ := fitsT_app h
  obtain ⟨l, hl, rfl⟩ := tm_of h1
  obtain ⟨r, hr, rfl⟩ := tm_of h2
  have g1 := wf_u8 hk
  have g2 := wf_u8 hop
  refine ⟨⟨k.toNat, no, p, a, op.toNat, l, r⟩, ⟨by simp only; omega, hp, ha, haw, by simp only; omega, hl, hr⟩, ?_⟩
  simp only [Lt.c]
  rw [Int.toNat_of_nonneg g1.1, Int.toNat_of_nonneg g2.1]
theorem lits_of {B : Nat} : ∀ {es : List (List D)}, (∀ e ∈ es, ShT.fits B litSh e) → ∃ l : List Lt, es = ltL l ∧ ∀ x ∈ l, x.wf B
  | [], _ => ⟨[], rfl, fun _ h => by cases h⟩
  | e :: r, h => by
    obtain ⟨x, hx, rfl⟩ := lit_of (h e (List.mem_cons_self ..))
    obtain ⟨l, rfl, hl⟩ := lits_of (es := r) fun y hy => h y (List.mem_cons_of_mem _ hy)
    refine ⟨x :: l, rfl, fun y hy => ?_⟩
    rcases List.mem_cons.1 hy with rfl | hy
    · exact hx
    · exact hl y hy
theorem txts_of {B : Nat} : ∀ {es : List (List D)}, (∀ e ∈ es, ShT.fits B [.str] e) → ∃ l : List Nm, es = strC l ∧ ∀ x ∈ l, x.length ≤ B
  | [], _ => ⟨[], rfl, fun _ h => by cases h⟩
  | e :: r, h => by
    have h0 := h e (List.mem_cons_self ..)
    simp only [ShT.fits, ShT.fit] at h0
    obtain ⟨_, _, rfl, ⟨s, rfl, hs⟩, rfl⟩ := h0
    obtain ⟨l, rfl, hl⟩ := txts_of (es := r) fun y hy => h y (List.mem_cons_of_mem _ hy)
    refine ⟨s :: l, rfl, fun y hy => ?_⟩
    rcases List.mem_cons.1 hy with rfl | hy
    · exact hs
    · exact hl y hy
variable {P : Program}
section
variable [Globs] [Codes]
theorem Reads.mono {B : Nat} {t : TypeId} {Q Q' : D → Prop} (h : Reads P B t Q) (hq : ∀ a, Q a → Q' a) : Reads P B t Q' := by
  intro H enc w r base fuel v x hx hw hok
  obtain ⟨a, h1, h2⟩ := h hx hw hok
  exact ⟨a, h1, hq a h2⟩
theorem reads_lits {B : Nat} {T t : TypeId} {n : Nat} (hT : isTmB P T = true) (hs : shT P T n t = some [.slice litSh]) (ha : aggB P t = some false) : Reads P B t (fun a => ∃ l : List Lt, (∀ x ∈ l, x.wf B) ∧ l.length ≤ B ∧ a = .slice (ltL l) []) :=
  Reads.mono (Q := fun a => ShT.fit B _ a) (readsT_one hT hs ha) fun a h => by
    simp only [ShT.fit] at h
    obtain ⟨es, rfl, hl, he⟩ := h
    obtain ⟨l, rfl, hw⟩ := lits_of he
    rw [ltL_len] at hl
    exact ⟨l, hw, hl, rfl⟩
theorem reads_txts {B : Nat} {T t : TypeId} {n : Nat} (hT : isTmB P T = true) (hs : shT P T n t = some [.slice [.str]]) (ha : aggB P t = some false) : Reads P B t (fun a => ∃ l : List Nm, l.length ≤ B ∧ a = .slice (strC l) []) :=
  Reads.mono (Q := fun a => ShT.fit B _ a) (readsT_one hT hs ha) fun a h => by
    simp only [ShT.fit] at h
    obtain ⟨es, rfl, hl, he⟩ := h
    obtain ⟨l, rfl, _⟩ := txts_of he
    rw [strC_len] at hl
    exact ⟨l, hl, rfl⟩
end
end Go.Sx

/- RESULTS KEPT: a table of calls that have been worked out. -/
namespace Go.Sx
mutual
def dEq : D → D → Bool
  | .int k a, .int k' b => decide (k = k') && decide (a = b)
  | .str a, .str b => decide (a = b)
  | .bool a, .bool b => a == b
  | .slice a x, .slice b y => dEqLL a b && dEqLL x y
  | .agg a, .agg b => dEqL a b
  | _, _ => false
def dEqL : List D → List D → Bool
  | [], [] => true
  | a :: r, b :: q => dEq a b && dEqL r q
  | _, _ => false
def dEqLL : List (List D) → List (List D) → Bool
  | [], [] => true
  | a :: r, b :: q => dEqL a b && dEqLL r q
  | _, _ => false
end
mutual
theorem dEq_ok : ∀ a b : D, dEq a b = true → a = b
  | .int k a, b, h => by
    cases b <;> simp [dEq] at h
    rw [h.1, h.2]
  | .str a, b, h => by
    cases b <;> simp [dEq] at h
    rw [h]
  | .bool a, b, h => by
    cases b <;> simp [dEq] at h
    rw [h]
  | .slice a x, b, h => by
    cases b <;> simp [dEq] at h
    rw [dEqLL_ok a _ h.1, dEqLL_ok x _ h.2]
  | .agg a, b, h => by
    cases b <;> simp [dEq] at h
    rw [dEqL_ok a _ h]
  | .undef, b, h => by cases b <;> simp [dEq] at h
  | .nilp, b, h => by cases b <;> simp [dEq] at h
  | .nilf, b, h => by cases b <;> simp [dEq] at h
  | .tuple _, b, h => by cases b <;> simp [dEq] at h
  | .ptr _ _, b, h => by cases b <;> simp [dEq] at h
  | .fptr _, b, h => by cases b <;> simp [dEq] at h
  | .vec _, b, h => by cases b <;> simp [dEq] at h
  | .vptr _ _ _ _, b, h => by cases b <;> simp [dEq] at h
  | .vwin _ _ _, b, h => by cases b <;> simp [dEq] at h
  | .map _, b, h => by cases b <;> simp [dEq] at h
  | .func _ _ _, b, h => by cases b <;> simp [dEq] at h
  | .raw _, b, h => by cases b <;> simp [dEq] at h
  | .nils, b, h => by cases b <;> simp [dEq] at h
  | .own _ _ _, b, h => by cases b <;> simp [dEq] at h
  | .yld _, b, h => by cases b <;> simp [dEq] at h
  | .ifc, b, h => by cases b <;> simp [dEq] at h
  | .pan _, b, h => by cases b <;> simp [dEq] at h
theorem dEqL_ok : ∀ a b : List D, dEqL a b = true → a = b
  | [], [], _ => rfl
  | [], _ :: _, h => by simp [dEqL] at h
  | _ :: _, [], h => by simp [dEqL] at h
  | a :: r, b :: q, h => by
    simp only [dEqL, Bool.and_eq_true] at h
    rw [dEq_ok a b h.1, dEqL_ok r q h.2]
theorem dEqLL_ok : ∀ a b : List (List D), dEqLL a b = true → a = b
  | [], [], _ => rfl
  | [], _ :: _, h => by simp [dEqLL] at h
  | _ :: _, [], h => by simp [dEqLL] at h
  | a :: r, b :: q, h => by
    simp only [dEqLL, Bool.and_eq_true] at h
    rw [dEqL_ok a b h.1, dEqLL_ok r q h.2]
end
abbrev Memo := List (FuncId × List D × D)
def memoF : Memo → FuncId → List D → Option D
  | [], _, _ => none
  | (g, ys, r) :: l, f, xs => if f = g ∧ dEqL xs ys = true then some r else memoF l f xs
section
variable [Globs] [Codes]
def Memo.OK (P : Program) : Memo → Prop
  | [] => True
  | (g, ys, r) :: l => FnOK P g ys r ∧ Memo.OK P l
theorem memoF_ok {P : Program} : ∀ {l : Memo}, l.OK P → ∀ {f : FuncId} {xs : List D} {r : D}, memoF l f xs = some r → FnOK P f xs r
  | [], _, _, _, _, h => by cases h
  | (g, ys, r0) :: l, hl, f, xs, r, h => by
    simp only [memoF] at h
    split at h
    · rename_i hc
      cases h
      rw [hc.1, dEqL_ok _ _ hc.2]
      exact hl.1
    · exact memoF_ok hl.2 h
/-- A table with results kept. -/
def Tab.mem (t : Tab) (l : Memo) : Tab := { t with F := fun f xs => match memoF l f xs with
  | some r => some r
  | none => t.F f xs }
theorem Tab.OK.mem_ok {P : Program} {t : Tab} (ht : t.OK P) {l : Memo} (hl : l.OK P) : (t.mem l).OK P := by
  refine ⟨ht.T, ht.C, fun f xs r h => ?_⟩
  simp only [Tab.mem] at h
  split at h
  · cases h; exact memoF_ok hl (by assumption)
  · exact ht.F f xs r h
end
end Go.Sx
