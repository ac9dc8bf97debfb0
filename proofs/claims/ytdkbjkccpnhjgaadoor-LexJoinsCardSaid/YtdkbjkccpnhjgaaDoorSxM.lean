/- Own work: a layer over the kit: plain data, a walk over it, its soundness. -/
import Derived.Test.YtdkbjkccpnhjgaaDoorSxL
set_option linter.unusedSectionVars false
set_option linter.unusedVariables false
set_option linter.unusedSimpArgs false
set_option linter.deprecated false
namespace Go.Sx
open Go.RowKit
variable [Globs] [Codes]

section
variable {P : Program} {cx : Cx} {s : St} {φ : Mem} {h : Nat → Value} {tmps : Array Value} {w : World}

/-- What stands in the cells of a slice that is read. -/
theorem slice_news {v : Value} {ys ext : List (List D)} (hsub : Sub φ w) (hy : Rep φ v (.slice ys ext)) {sz : Nat} (hsz : 0 < sz) (hlen : ∀ q ∈ ys, q.length = sz) :
    ∃ news : List Value, ((v = .slice none 0 0 ∧ ys.length = 0) ∨ ∃ a c, v = .slice (some a) ys.length c ∧ ∀ j u, news[j]? = some u → w.cell? (a.add j) = some u) ∧ news.length = ys.length * sz ∧
      (∀ u ∈ news, u.oneCell' = true) ∧ ∀ i x j d, ys[i]? = some x → x[j]? = some d → Rep φ (news.getD (i * sz + j) Go.undef) d := by
  rcases hy.slice_inv with ⟨rfl, rfl, rfl⟩ | ⟨b, off, cap, sz', vals, rfl, hcap, hsz', hmem, hrep⟩
  · exact ⟨[], .inl ⟨rfl, rfl⟩, by simp, by simp, by simp⟩
  · by_cases hn : ys = []
    · subst hn
      exact ⟨[], .inr ⟨_, cap, rfl, by simp⟩, by simp, by simp, by simp⟩
    · have e1 : sz' = sz := by
        obtain ⟨q, hq⟩ := List.exists_mem_of_ne_nil _ hn
        rw [← hsz' q (List.mem_append_left _ hq), hlen q hq]
      subst e1
      have hget : ∀ q, q < ys.length * sz' → ∃ x d, (ys ++ ext)[q / sz']? = some x ∧ x[q % sz']? = some d := fun q hq => by
        have h1 : q / sz' < ys.length := (Nat.div_lt_iff_lt_mul hsz).2 hq
        have h2 : (ys ++ ext)[q / sz']? = some ys[q / sz'] := by rw [List.getElem?_append_left h1, List.getElem?_eq_getElem h1]
        have h3 : ys[q / sz'].length = sz' := hlen _ (List.getElem_mem h1)
        have h4 : q % sz' < ys[q / sz'].length := by rw [h3]; exact Nat.mod_lt _ hsz
        exact ⟨_, _, h2, List.getElem?_eq_getElem h4⟩
      refine ⟨(List.range (ys.length * sz')).map fun q => vals (q / sz') (q % sz'), .inr ⟨_, cap, rfl, ?_⟩, by simp, ?_, ?_⟩
      · intro j u hu
        rw [List.getElem?_map] at hu
        by_cases hj : j < ys.length * sz'
        · simp [hj] at hu
          subst hu
          obtain ⟨x, d, hx, hd⟩ := hget j hj
          have := hmem _ _ _ _ hx hd
          rw [Addr.add_lit]
          have e2 : off + j / sz' * sz' + j % sz' = off + j := by
            have := Nat.div_add_mod j sz'
            rw [Nat.mul_comm] at this; omega
          rw [e2] at this
          exact hsub _ _ _ this
        · rw [List.getElem?_eq_none (by simp; omega)] at hu; cases hu
      · intro u hu
        simp only [List.mem_map, List.mem_range] at hu
        obtain ⟨q, hq, rfl⟩ := hu
        obtain ⟨x, d, hx, hd⟩ := hget q hq
        exact (hrep _ _ _ _ hx hd).one
      · intro i x j d hi hj
        have h1 : i < ys.length := (List.getElem?_eq_some_iff.1 hi).1
        have h2 : j < sz' := by
          have := (List.getElem?_eq_some_iff.1 hj).1
          rwa [hlen x (List.mem_of_getElem? hi)] at this
        have h3 : i * sz' + j < ys.length * sz' := by
          have : (i + 1) * sz' ≤ ys.length * sz' := Nat.mul_le_mul_right _ h1
          rw [Nat.add_mul, Nat.one_mul] at this; omega
        have e3 : (i * sz' + j) / sz' = i := by
          rw [Nat.add_comm, Nat.add_mul_div_right _ _ hsz, Nat.div_eq_of_lt h2, Nat.zero_add]
        have e4 : (i * sz' + j) % sz' = j := by
          rw [Nat.add_comm, Nat.add_mul_mod_self_right, Nat.mod_eq_of_lt h2]
        have e5 : ((List.range (ys.length * sz')).map fun q => vals (q / sz') (q % sz')).getD (i * sz' + j) Go.undef = vals i j := by
          simp [List.getD, h3, e3, e4]
        rw [e5]
        exact hrep _ _ _ _ (by rw [List.getElem?_append_left h1]; exact hi) hj

def rowOpt (φ : Mem) (g : Option Nat) (xs : List Value) : Mem := fun b o => if g = some b then xs[o]? else φ b o

/-- Cells of what was there and of what comes behind it. -/
theorem rep_append {φ : Mem} {es ys : List (List D)} {xs news : List Value} {sz : Nat} (hx : xs.length = es.length * sz) (hlen : ∀ q ∈ es, q.length = sz) (h1 : ∀ i x j d, es[i]? = some x → x[j]? = some d → Rep φ (xs.getD (i * sz + j) Go.undef) d)
    (h2 : ∀ i x j d, ys[i]? = some x → x[j]? = some d → Rep φ (news.getD (i * sz + j) Go.undef) d) :
    ∀ i x j d, (es ++ ys)[i]? = some x → x[j]? = some d → Rep φ ((xs ++ news).getD (i * sz + j) Go.undef) d := by
  intro i x j d hi hj
  by_cases hlt : i < es.length
  · rw [List.getElem?_append_left hlt] at hi
    have hq : j < sz := by
      have := (List.getElem?_eq_some_iff.1 hj).1
      rwa [hlen x (List.mem_of_getElem? hi)] at this
    have h3 : i * sz + j < xs.length := by
      rw [hx]
      have : (i + 1) * sz ≤ es.length * sz := Nat.mul_le_mul_right _ hlt
      rw [Nat.add_mul, Nat.one_mul] at this; omega
    have e : (xs ++ news).getD (i * sz + j) Go.undef = xs.getD (i * sz + j) Go.undef := by
      simp only [List.getD]; rw [List.getElem?_append_left h3]
    rw [e]; exact h1 i x j d hi hj
  · rw [List.getElem?_append_right (by omega)] at hi
    have e : (xs ++ news).getD (i * sz + j) Go.undef = news.getD ((i - es.length) * sz + j) Go.undef := by
      simp only [List.getD]
      have h4 : es.length * sz ≤ i * sz := Nat.mul_le_mul_right _ (by omega)
      rw [List.getElem?_append_right (by rw [hx]; omega), hx, Nat.sub_mul]
      congr 2
      omega
    rw [e]; exact h2 _ x j d hi hj

/-- THE APPEND, from the state's side; s1: the state without the array that is extended. -/
theorem append_core {t ty e : TypeId} {i : TypeInfo} {z : Value} {sz bytes dst id : Nat} (ht : P.underlying t = some (.slice e)) (hi : P.info? e = some i) (hz : i.zero = some z) (hsize : i.size = sz) (hby : i.bytes = bytes)
    (hzs : z.cells.size = sz) (hsz : 0 < sz) {s1 : St} (hm : Mod cx s1 φ h tmps w) (hd : dst < cx.N) (hid : cx.bs ≤ id) (hcl : s1.clean id = true) {fz : Bool} {v : Value} {es ys ext : List (List D)} (hob : ObR cx.own φ h w v (.arr fz sz e es))
    (hfree : ∀ i b, (lk s1.ob i).isSome → blk (h i) = some b → blk v ≠ some b) (hnk : ∀ b, blk v = some b → ¬ (cx.kp b).isSome)
    {y : Value} (hy : Rep φ y (.slice ys ext)) (hylen : ∀ q ∈ ys, q.length = sz) (h63 : es.length + ys.length ≤ maxLen) (hbytes : (es.length + ys.length) * bytes ≤ 140737488355328) :
    ∃ v' w' φ', (Builtin.append_ #[t, t] ty #[v, y]).run P w = .ok v' w' ∧ Mod cx (s1.add dst id (.vec id) (some (.arr fz sz e (es ++ ys)))) φ' (updH h id v') (tmps.setIfInBounds dst v') w' := by
  obtain ⟨_, hlen, xs, hown, hrep, hblk⟩ := hob
  obtain ⟨news, hya, hnl, hone, hnrep⟩ := slice_news hm.mem hy hsz hylen
  obtain ⟨v', w', hrun, hown', hone', hcase⟩ := run_append_cases (P := P) t ty e i z sz bytes ht hi hz hsize hby hzs hsz v es.length xs hown y ys.length news hya hnl hone h63 hbytes
  have hlen' : ∀ q ∈ es ++ ys, q.length = sz := fun q hq => (List.mem_append.1 hq).elim (hlen q) (hylen q)
  have hown2 : w'.ownsRow 0 e sz v' (es ++ ys).length (xs ++ news) := by rw [List.length_append]; exact hown'
  have hxl : xs.length = es.length * sz := hown.1
  have hcells : ∀ g, blk v' = some g → ∀ j u, (xs ++ news)[j]? = some u → w'.cell? ⟨g, j, none⟩ = some u := fun g hg j u hu => by
    have hg' : v'.ownBlock = some g := by
      rcases hown'.2 with ⟨rfl, _⟩ | ⟨g2, c2, cur2, rfl, _⟩
      · cases hg
      · cases hg; rfl
    have := hown'.cells hg' j u hu
    rwa [Addr.add_lit, Nat.zero_add] at this
  have hrep' := rep_append (es := es) (ys := ys) (xs := xs) (news := news) hxl hlen hrep hnrep
  rcases hcase with ⟨hb, hos, htape, hout, hhs, hk⟩ | ⟨hb, hbel⟩
  · -- in place
    have hsub' : Sub φ w' := fun b o u hu => by
      by_cases hbv : blk v = some b
      · have := (hblk b hbv).2 o
        rw [hu] at this
        split at this
        · rename_i hc
          refine hcells b (by rw [hb]; exact hbv) o u ?_
          rw [List.getElem?_append_left (by rw [hxl]; exact hc.2)]; exact this.symm
        · cases this
      · rw [World.cell?_of_block (w := w) (a := ⟨b, o, none⟩) (hk b hbv)]
        exact hm.mem b o u hu
    have hm' : Mod cx s1 φ h tmps w' := by
      cases hv : blk v with
      | none =>
        refine ⟨hm.size, hm.tm, hsub', hm.ext, hm.new, fun i o ho => ?_, hm.sep, hos.trans hm.os, htape.trans hm.tape, hout.trans hm.output, by rw [hhs]; exact hm.grow, hm.one, fun b h1 h2 => ?_, hm.hfix, fun b o hb => ⟨by rw [hk b (by rw [hv]; simp)]; exact (hm.kept b o hb).1, (hm.kept b o hb).2⟩⟩
        · exact (hm.ob i o ho).keep (fun _ hb => hb) (fun b _ => hk b (by rw [hv]; simp)) (fun _ _ _ h => h) (fun _ _ _ => rfl) (fun _ _ _ r => r)
        · rw [hk b (by rw [hv]; simp)]; exact hm.frame b h1 h2
      | some g => exact hm.world (hblk g hv).1 (fun i hi e' => hfree i g hi e' hv) (hnk g hv) hos htape hout hhs (fun k hkg => hk k (by rw [hv]; simp; omega)) hsub'
    have hmono : ∀ b o u, φ b o = some u → (if fz then rowOpt φ (blk v') (xs ++ news) else φ) b o = some u := by
      intro b o u hu
      cases fz
      · exact hu
      · simp only [if_true, rowOpt]
        split
        · rename_i hg
          have := (hblk b (by rw [← hb]; exact hg)).2 o
          rw [hu] at this
          split at this
          · rename_i hc
            rw [List.getElem?_append_left (by rw [hxl]; exact hc.2)]; exact this.symm
          · cases this
        · exact hu
    refine ⟨v', w', if fz then rowOpt φ (blk v') (xs ++ news) else φ, hrun, hm'.arr hd hid hcl hone' ?_ hmono ?_ ?_ (fun i b h1 h2 => by rw [hb]; exact hfree i b h1 h2) (fun b hbv => hnk b (by rw [← hb]; exact hbv))⟩
    · refine ⟨hsz, hlen', xs ++ news, hown2, fun i x j d h1 h2 => (hrep' i x j d h1 h2).mono hmono, fun b hbv => ⟨(hblk b (by rw [← hb]; exact hbv)).1, fun o => ?_⟩⟩
      cases fz
      · simp only [Bool.false_eq_true, false_and, if_false]
        have := (hblk b (by rw [← hb]; exact hbv)).2 o
        simpa using this
      · simp only [if_true, hbv, rowOpt, true_and]
        split
        · rfl
        · rename_i hnlt
          exact List.getElem?_eq_none (by rw [hown2.1]; omega)
    · intro b o u hu
      cases fz
      · exact hsub' b o u hu
      · simp only [if_true, rowOpt] at hu
        split at hu
        · rename_i hg
          exact hcells b hg o u hu
        · exact hsub' b o u hu
    · intro b o u hu hn
      cases fz
      · simp only [Bool.false_eq_true, if_false] at hu; rw [hn] at hu; cases hu
      · simp only [if_true, rowOpt] at hu
        split at hu
        · rename_i hg; exact hg
        · rw [hn] at hu; cases hu
  · -- a new block
    rcases hown'.2 with ⟨rfl, _⟩ | ⟨g, cap, cur, rfl, _⟩
    · cases hb
    · simp only [blk, Option.some.injEq] at hb
      have hst := AStep.arr (h := h) (dst := id) hm.mem (w' := w') hbel (fz := fz) (sz := sz) (e := e) (es := es ++ ys) (g := g) (cap := cap) (xs := xs ++ news) (by omega) hsz hlen' (by rw [List.length_append]; exact hown') hrep'
      have := hm.astep hst hd hid (fun _ _ _ h => St.clean_tm hcl h) (fun _ _ _ h => St.clean_ob hcl h) (fun _ => rfl)
      rw [List.length_append] at this
      exact ⟨_, w', _, hrun, this⟩

end
end Go.Sx
