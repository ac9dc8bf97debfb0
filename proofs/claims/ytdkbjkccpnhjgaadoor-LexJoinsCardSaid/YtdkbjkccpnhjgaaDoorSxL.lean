/- Own work: a layer over the kit: plain data, a walk over it, its soundness. -/
import Derived.Test.YtdkbjkccpnhjgaaDoorSxK
set_option linter.unusedSectionVars false
set_option linter.unusedVariables false
set_option linter.unusedSimpArgs false
set_option linter.deprecated false
namespace Go.Sx
open Go.RowKit
variable [Globs] [Codes]

section
variable {P : Program} {w : World}

/-- append, told apart: in place (or nothing is done), or into a new block. -/
theorem run_append_cases (t ty e : TypeId) (i : TypeInfo) (z : Value) (size bytes : Nat) (ht : P.underlying t = some (.slice e)) (hi : P.info? e = some i) (hz : i.zero = some z)
    (hsize : i.size = size) (hby : i.bytes = bytes) (hzs : z.cells.size = size) (hsz : 0 < size)
    (v : Value) (n : Nat) (xs : List Value) (hown : w.ownsRow 0 e size v n xs)
    (y : Value) (m : Nat) (news : List Value) (hy : (y = .slice none 0 0 ∧ m = 0) ∨ ∃ a c, y = .slice (some a) m c ∧ ∀ j u, news[j]? = some u → w.cell? (a.add j) = some u)
    (hl : news.length = m * size) (h1 : ∀ u ∈ news, u.oneCell' = true)
    (h63 : n + m ≤ maxLen) (hbytes : (n + m) * bytes ≤ 140737488355328) :
    ∃ v' w', (Builtin.append_ #[t, t] ty #[v, y]).run P w = .ok v' w' ∧ w'.ownsRow 0 e size v' (n + m) (xs ++ news) ∧ v'.oneCell' = true ∧
      ((blk v' = blk v ∧ w'.os = w.os ∧ w'.tape = w.tape ∧ w'.output = w.output ∧ w'.heap.size = w.heap.size ∧ ∀ k, blk v ≠ some k → w'.heap[k]? = w.heap[k]?) ∨
       (blk v' = some w.heap.size ∧ Below w.heap.size w w')) := by
  subst hsize
  subst hby
  rcases hy with ⟨rfl, rfl⟩ | ⟨a, c, rfl, hnews⟩
  · have hn : news = [] := List.eq_nil_of_length_eq_zero (by simpa using hl)
    subst hn
    refine ⟨v, w, run_append_owned_none w 0 t ty e i i.size ht hi v n xs hown, by simpa using hown, ?_, .inl ⟨rfl, rfl, rfl, rfl, rfl, fun _ _ => rfl⟩⟩
    rcases hown.2 with ⟨rfl, _⟩ | ⟨g, cap, cur, rfl, _⟩ <;> rfl
  have hsmall : n + m ≤ 9223372036854775807 := by simp only [maxLen] at h63; omega
  have hlen : (xs ++ news).length = (n + m) * i.size := by rw [List.length_append, hown.1, hl, Nat.add_mul]
  have grown : ∀ (old : Nat), old < n + m →
      (w.drew.alloc (.cells (xs.toArray ++ news.toArray ++ Builtin.zeroCells z.cells (grownCap w (n + m) old e - (n + m))) e)).ownsRow 0 e i.size
        (.slice (some ⟨w.heap.size, 0, none⟩) (n + m) (grownCap w (n + m) old e)) (n + m) (xs ++ news) := by
    intro old ho
    have hge := grownCap_ge w (n + m) old e
    have hcm : grownCap w (n + m) old e ≤ maxLen := grownCap_le_maxLen w (n + m) old e h63
    refine ⟨hlen, .inr ⟨w.heap.size, _, _, rfl, Nat.zero_le _, heap_alloc_new w.drew _, hge, hcm, ?_, ?_⟩⟩
    · simp only [Array.size_append, List.size_toArray, size_zeroCells, hzs, hown.1, hl, ← Nat.add_mul]
      congr 1
      omega
    · simp only [Array.toList_append, List.append_assoc]
      rw [← List.append_assoc, ← hlen]
      exact List.take_left
  have hbel : ∀ ob, Below w.heap.size w (w.drew.alloc ob) := fun ob => ((Below.refl _ w).drew).alloc (Nat.le_refl _) _
  rcases hown.2 with ⟨rfl, rfl⟩ | ⟨g, cap, cur, rfl, hbg, hg, hnc, hcm, hcs, htake⟩
  · have hx : xs = [] := List.eq_nil_of_length_eq_zero (by simpa using hown.1)
    subst hx
    by_cases hm : m = 0
    · subst hm
      have hn : news = [] := List.eq_nil_of_length_eq_zero (by simpa using hl)
      subst hn
      refine ⟨.slice none 0 0, w, ?_, World.ownsRow_nil w 0 e i.size, rfl, .inl ⟨rfl, rfl, rfl, rfl, rfl, fun _ _ => rfl⟩⟩
      simp [Builtin.append_, run_underlying ht, sizeOf, typeInfo, hi, Builtin.lenOf, Builtin.firstCells, loadCells, loadCellsFrom]
    · have hr := run_append_nil (P := P) w t ty e i z ht hi hz a m c news hl hnews (by omega) (by omega) (by have hb := hbytes; simp only [Nat.zero_add] at hb; omega)
      have hgr := grown 0 (by omega)
      simp only [Nat.zero_add, List.nil_append, Array.empty_append] at hgr ⊢
      exact ⟨_, _, hr, hgr, rfl, .inr ⟨rfl, hbel _⟩⟩
  · by_cases hroom : n + m ≤ cap
    · have hfit : n * i.size + news.length ≤ cur.size := by rw [hl, hcs, ← Nat.add_mul]; exact Nat.mul_le_mul_right _ hroom
      have hr := run_append_room (P := P) w t ty e i ht hi g n cap cur hg a m c news hl hnews h1 hroom hfit
      refine ⟨_, _, hr, ⟨hlen, .inr ⟨g, cap, _, rfl, hbg, setRow_heap w g cur _ e _ hg, hroom, hcm, ?_, ?_⟩⟩, rfl, .inl ⟨rfl, rfl, rfl, rfl, by simp, fun k hk => setRow_other w g k _ (fun e => hk (by simp [blk, e]))⟩⟩
      · simp only [List.size_toArray, List.length_append, List.length_take, List.length_drop, Array.length_toList]
        omega
      · rw [htake, ← hlen]
        exact List.take_left
    · have holds : ∀ j u, xs[j]? = some u → w.cell? ((⟨g, 0, none⟩ : Addr).add j) = some u := hown.cells (g := g) rfl
      have hr := run_append_grow (P := P) w t ty e i z ht hi hz ⟨g, 0, none⟩ n cap xs hown.1 holds a m c news hl hnews (by omega) (by omega) (growslice_fits (by omega) hbytes)
      exact ⟨_, _, hr, grown cap (by omega), rfl, .inr ⟨rfl, hbel _⟩⟩

end

/-- The places that hold the array 'id' hold what it was. -/
def D.dem (id : Nat) (r : D) : D → D
  | .vec j => if j = id then r else .vec j
  | d => d
def Ob.dem (id : Nat) (r : D) : Ob → Ob
  | .cells cs => .cells (cs.map (D.dem id r))
  | .gen g cs => .gen g (cs.map (D.dem id r))
  | o => o
def eraseId {α : Type} (id : Nat) : List (Nat × α) → List (Nat × α)
  | [] => []
  | (j, a) :: l => if j = id then eraseId id l else (j, a) :: eraseId id l

def St.dem (id : Nat) (r : D) (s : St) : St :=
  { tm := s.tm.map fun p => (p.1, D.dem id r p.2), ob := eraseId id (s.ob.map fun p => (p.1, Ob.dem id r p.2)) }

theorem look_map {α β : Type} (f : α → β) : ∀ (l : List (Nat × α)) (i : Nat), lk (l.map fun p => (p.1, f p.2)) i = (lk l i).map f
  | [], _ => rfl
  | (j, a) :: l, i => by
    simp only [List.map_cons, lk]
    split
    · rfl
    · exact look_map f l i

theorem look_erase {α : Type} (id : Nat) : ∀ (l : List (Nat × α)) (i : Nat), lk (eraseId id l) i = if i = id then none else lk l i
  | [], _ => by simp [eraseId, lk]
  | (j, a) :: l, i => by
    simp only [eraseId]
    split
    · rename_i hj
      rw [look_erase id l i]
      split
      · rfl
      · rename_i hi
        simp only [lk]
        rw [if_neg (by omega)]
    · rename_i hj
      simp only [lk]
      by_cases hi : i = j
      · subst hi
        simp [hj]
      · rw [if_neg hi, if_neg hi, look_erase id l i]

section
variable {cx : Cx} {s : St} {φ φ' : Mem} {h : Nat → Value} {tmps : Array Value} {w w' : World}

theorem RV.demote {id : Nat} {r : D} (hr : RV φ h (h id) r) {v : Value} {d : D} (hv : RV φ h v d) : RV φ h v (D.dem id r d) := by
  unfold D.dem
  split
  · split
    · rename_i e; subst e; rw [hv.vec_inv]; exact hr
    · exact hv
  · exact hv

/-- An array is let go: its places hold what is known of its value. -/
theorem Mod.drop (hm : Mod cx s φ h tmps w) {id : Nat} {r : D} (hr : RV φ h (h id) r) : Mod cx (s.dem id r) φ h tmps w := by
  have hob : ∀ i o, lk (s.dem id r).ob i = some o → i ≠ id ∧ ∃ o', lk s.ob i = some o' ∧ o = Ob.dem id r o' := fun i o ho => by
    simp only [St.dem] at ho
    rw [look_erase] at ho
    split at ho
    · cases ho
    · rename_i hi
      rw [look_map] at ho
      cases hq : lk s.ob i with
      | none => rw [hq] at ho; cases ho
      | some o' => rw [hq] at ho; simp at ho; exact ⟨hi, o', rfl, ho.symm⟩
  refine ⟨hm.size, ?_, hm.mem, hm.ext, hm.new, ?_, ?_, hm.os, hm.tape, hm.output, hm.grow, hm.one, hm.frame, hm.hfix, fun b o hb => ⟨(hm.kept b o hb).1, (hm.kept b o hb).2.1, fun i hi => ?_⟩⟩
  · intro t d hd
    simp only [St.dem] at hd
    rw [look_map] at hd
    cases hq : lk s.tm t with
    | none => rw [hq] at hd; cases hd
    | some d' => rw [hq] at hd; simp at hd; subst hd; exact RV.demote hr (hm.tm t d' hq)
  · intro i o ho
    obtain ⟨_, o', ho', rfl⟩ := hob i o ho
    have := hm.ob i o' ho'
    cases o' with
    | arr => exact this
    | cells cs =>
      obtain ⟨b, vals, e, h1, h2, h3, h4, h5, h6⟩ := this
      refine ⟨b, vals, e, h1, h2, h3, by simpa using h4, fun j d hd => ?_, h6⟩
      rw [List.getElem?_map] at hd
      cases hq : cs[j]? with
      | none => rw [hq] at hd; cases hd
      | some d' => rw [hq] at hd; simp at hd; subst hd; exact RV.demote hr (h5 j d' hq)
    | gen g cs =>
      obtain ⟨b, vals, o, h1, h2, h3, h4, h5, h6, h7⟩ := this
      refine ⟨b, vals, o, h1, h2, h3, h4, by simpa using h5, fun j d hd => ?_, h7⟩
      rw [List.getElem?_map] at hd
      cases hq : cs[j]? with
      | none => rw [hq] at hd; cases hd
      | some d' => rw [hq] at hd; simp at hd; subst hd; exact RV.demote hr (h6 j d' hq)
  · intro i j b hi hj
    obtain ⟨o, ho⟩ := Option.isSome_iff_exists.1 hi
    obtain ⟨o2, ho2⟩ := Option.isSome_iff_exists.1 hj
    obtain ⟨_, o', ho', _⟩ := hob i o ho
    obtain ⟨_, o3, ho3, _⟩ := hob j o2 ho2
    exact hm.sep i j b (by simp [ho']) (by simp [ho3])
  · obtain ⟨o, ho⟩ := Option.isSome_iff_exists.1 hi
    obtain ⟨_, o', ho', _⟩ := hob i o ho
    exact (hm.kept b _ hb).2.2 i (by simp [ho'])

/-- Another block is written, in which nothing known has turned. -/
theorem Mod.world (hm : Mod cx s φ h tmps w) {g : Nat} (hg : cx.own g) (hfree : ∀ i, (lk s.ob i).isSome → blk (h i) ≠ some g) (hnk : ¬ (cx.kp g).isSome) (hos : w'.os = w.os) (htape : w'.tape = w.tape) (hout : w'.output = w.output)
    (hsize : w'.heap.size = w.heap.size) (hk : ∀ k, k ≠ g → w'.heap[k]? = w.heap[k]?) (hsub : Sub φ w') : Mod cx s φ h tmps w' := by
  refine ⟨hm.size, hm.tm, hsub, hm.ext, hm.new, fun i o ho => ?_, hm.sep, hos.trans hm.os, htape.trans hm.tape, hout.trans hm.output, by rw [hsize]; exact hm.grow, hm.one, fun b hb hz => ?_, hm.hfix, fun b o hb => ⟨by rw [hk b (fun e => hnk (e ▸ by rw [hb]; rfl))]; exact (hm.kept b o hb).1, (hm.kept b o hb).2⟩⟩
  · refine (hm.ob i o ho).keep (fun _ hb => hb) (fun b hb => hk b ?_) (fun _ _ _ h => h) (fun _ _ _ => rfl) (fun _ _ _ r => r)
    intro e
    subst e
    exact hfree i (by simp [ho]) hb
  · rw [hk b (fun e => by subst e; exact hg.elim (fun h => by omega) hz)]
    exact hm.frame b hb hz

/-- An array is taken in. -/
theorem Mod.arr (hm : Mod cx s φ h tmps w) {dst id : Nat} {fz : Bool} {sz : Nat} {e : TypeId} {es : List (List D)} {hv : Value} (hd : dst < cx.N) (hid : cx.bs ≤ id) (hcl : s.clean id = true) (hone : hv.oneCell' = true)
    (hob : ObR cx.own φ' h w hv (.arr fz sz e es)) (hmono : ∀ b o u, φ b o = some u → φ' b o = some u) (hsub : Sub φ' w) (hnew : ∀ b o u, φ' b o = some u → φ b o = none → blk hv = some b)
    (hfree : ∀ i b, (lk s.ob i).isSome → blk (h i) = some b → blk hv ≠ some b) (hnk : ∀ b, blk hv = some b → ¬ (cx.kp b).isSome) :
    Mod cx (s.add dst id (.vec id) (some (.arr fz sz e es))) φ' (updH h id hv) (tmps.setIfInBounds dst hv) w := by
  have hown : ∀ b, blk hv = some b → cx.own b := fun b hb => (hob.2.2.choose_spec.2.2 b hb).1
  refine ⟨by simp [hm.size], ?_, hsub, fun b o v hb => hmono b o v (hm.ext b o v hb), ?_, ?_, ?_, hm.os, hm.tape, hm.output, hm.grow, ?_, hm.frame, fun i hi => by rw [← hm.hfix i hi]; exact upd_other _ _ (by omega), ?_⟩
  · intro t d hl
    simp only [St.add, lk] at hl
    split at hl
    · rename_i ht
      cases hl
      have : (tmps.setIfInBounds dst hv).getD t Go.undef = hv := by
        subst ht
        have : t < tmps.size := by rw [hm.size]; exact hd
        simp [Array.getD, this]
      rw [this]
      have r := RV.vec (φ := φ') (h := updH h id hv) id (by rw [upd_same]; obtain ⟨a, c, hv'⟩ := ob_arr_val hob; rw [hv']; rfl)
      rw [upd_same] at r
      exact r
    · rename_i ht
      have : (tmps.setIfInBounds dst hv).getD t Go.undef = tmps.getD t Go.undef := by
        simp [Array.getD_eq_getD_getElem?, Ne.symm ht]
      rw [this]
      exact ((hm.tm t d hl).mono hmono).upd id hv (St.clean_tm hcl hl)
  · intro b o u hu h0
    cases hq : φ b o with
    | some u' => exact hm.new b o u' hq h0
    | none => exact hown b (hnew b o u hu hq)
  · intro i o ho
    simp only [St.add, lk] at ho
    split at ho
    · rename_i hi
      cases ho
      subst hi
      have e1 : updH h i hv i = hv := upd_same _ _ _
      rw [e1]
      exact hob.keep (fun _ hb => hb) (fun _ _ => rfl) (fun _ _ _ h => h) (fun _ _ _ => rfl) (fun _ _ he => by cases he)
    · rename_i hi
      have e1 : updH h id hv i = h i := upd_other _ _ hi
      rw [e1]
      refine (hm.ob i o ho).keep (fun _ hb => hb) (fun _ _ => rfl) hmono (fun b hb off => ?_) (fun v d hdm r => ?_)
      · cases hq : φ b off with
        | some u => exact hmono b off u hq
        | none =>
          cases hq' : φ' b off with
          | none => rfl
          | some u => exact absurd (hnew b off u hq' hq) (hfree i b (by simp [ho]) hb)
      · have hmen := St.clean_ob hcl ho
        obtain ⟨j, hj⟩ := List.mem_iff_getElem?.1 hdm
        exact (r.mono hmono).upd id hv (menL_get hmen j d hj)
  · intro i j b hi hj hbi hbj
    have hlk : ∀ i, i ≠ id → (lk (s.add dst id (.vec id) (some (.arr fz sz e es))).ob i).isSome → (lk s.ob i).isSome := fun i hne hi => by
      simpa only [St.add, lk, if_neg hne] using hi
    by_cases h1 : i = id <;> by_cases h2 : j = id
    · rw [h1, h2]
    · subst h1
      simp only [upd_same] at hbi
      simp only [upd_other h hv h2] at hbj
      exact absurd hbi (hfree j b (hlk j h2 hj) hbj)
    · subst h2
      simp only [upd_same] at hbj
      simp only [upd_other h hv h1] at hbi
      exact absurd hbj (hfree i b (hlk i h1 hi) hbi)
    · simp only [upd_other h hv h1] at hbi
      simp only [upd_other h hv h2] at hbj
      exact hm.sep i j b (hlk i h1 hi) (hlk j h2 hj) hbi hbj
  · intro i
    simp only [updH]
    split
    · exact hone
    · exact hm.one i
  · intro b o hb
    obtain ⟨h1, h2, h3⟩ := hm.kept b o hb
    have hne : blk hv ≠ some b := fun he => hnk b he (by rw [hb]; rfl)
    refine ⟨h1, fun off => ?_, fun i hi => ?_⟩
    · cases hq : φ' b off with
      | none => rfl
      | some u => exact absurd (hnew b off u hq (h2 off)) hne
    · by_cases hi' : i = id
      · subst hi'; simp only [upd_same]; exact hne
      · simp only [upd_other h hv hi']
        simp only [St.add, lk, if_neg hi'] at hi
        exact h3 i hi

end
end Go.Sx
