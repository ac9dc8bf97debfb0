/- Own work: a layer over the kit: plain data, a walk over it, its soundness. -/
import Derived.Test.YtdkbjkccpnhjgaaDoorSxF
set_option linter.unusedSectionVars false
set_option linter.unusedVariables false
set_option linter.unusedSimpArgs false
set_option linter.deprecated false
namespace Go.Sx
open Go.RowKit
variable [Globs] [Codes]

/-- The offset of a field that has cells. -/
def fldOff (P : Program) (s : TypeId) (f : Nat) : Option (Nat × Bool × Nat) :=
  match P.underlying s with
  | some (.struct fs) => match fs[f]? with
    | some fd => match szT P fd.type, aggB P fd.type with
      | some n, some a => if n = 0 then none else some (fd.offset, a, n)
      | _, _ => none
    | none => none
  | _ => none

section
variable {P : Program} {o : Oper} {ρ : Operand → Value} {w : World} {φ : Mem} {h : Nat → Value} {dst : Nat} {K : D → Option Ob → Prop} {obs : Nat → Option Ob} {own : Nat → Prop}

theorem exec_faddr {s : TypeId} {x : Operand} {f off n : Nat} {ag : Bool} {b q : Nat} (ho : o.op = .fieldAddr s x f) (hf : fldOff P s f = some (off, ag, n)) (hx : ρ x = .pointer (some ⟨b, q, none⟩)) :
    (execOp ρ o).run P w = .ok (.value (.pointer (some ⟨b, q + off, none⟩))) w := by
  unfold fldOff at hf
  split at hf
  · rename_i fs hu
    split at hf
    · rename_i fd hfd
      split at hf
      · rename_i n' a' hs ha
        split at hf
        · cases hf
        · rename_i hn
          cases hf
          simp [execOp, ho, hx, Instr.fieldAt, run_underlying hu, hfd, Instr.sureAddr, fieldPlace, run_sizeOf hs, hn, Addr.add_lit]
      · cases hf
    · cases hf
  · cases hf

theorem s_faddr {s : TypeId} {x : Operand} {f off n : Nat} {ag : Bool} (ho : o.op = .fieldAddr s x f) (hf : fldOff P s f = some (off, ag, n)) (hφ : Sub φ w) {ds : List D} (hr : RVL φ h [ρ x] ds)
    (hev : evl P dst (.faddr off) ds obs K) : OpOut P o ρ w (APost φ h w dst K) := by
  match ds, hr, hev with
  | [.ptr id q], hr, hev =>
    obtain ⟨b, hh, hx⟩ := hr.1.ptr_inv
    exact OpOut.same hφ (exec_faddr ho hf hx) hev (.ptr id (q + off) b hh)
  | [.fptr cs], hr, hev =>
    obtain ⟨b, q, vals, hx, hm, hrep⟩ := hr.1.fptr_inv
    refine OpOut.same hφ (exec_faddr ho hf hx) hev (.fptr b (q + off) (cs.drop off) (fun j => vals (off + j)) ?_ ?_)
    · intro j d hd
      rw [List.getElem?_drop] at hd
      have := hm _ _ hd
      rwa [← Nat.add_assoc] at this
    · intro j d hd
      rw [List.getElem?_drop] at hd
      exact hrep _ _ hd
  | [.vptr id i j], hr, hev =>
    obtain ⟨b, sz, len, cap, hsz, hh, hx⟩ := hr.1.vptr_inv
    refine OpOut.same hφ (exec_faddr ho hf hx) hev ?_
    rw [Nat.add_assoc]
    exact .vptr id i (j + off) b sz len cap hsz hh

theorem exec_field_agg {s : TypeId} {x : Operand} {f off n : Nat} {vs : Array Value} (ho : o.op = .field s x f) (hf : fldOff P s f = some (off, true, n)) (hx : ρ x = .agg vs) :
    (execOp ρ o).run P w = .ok (.value (.agg (vs.extract off (off + n)))) w := by
  unfold fldOff at hf
  split at hf
  · rename_i fs hu
    split at hf
    · rename_i fd hfd
      split at hf
      · rename_i n' a' hs ha
        split at hf
        · cases hf
        · cases hf
          simp [execOp, ho, hx, Instr.field, run_underlying hu, hfd, asAgg, part, run_isAgg ha, run_sizeOf hs]
      · cases hf
    · cases hf
  · cases hf

theorem exec_field_one {s : TypeId} {x : Operand} {f off n : Nat} {vs : Array Value} {v : Value} (ho : o.op = .field s x f) (hf : fldOff P s f = some (off, false, n)) (hx : ρ x = .agg vs) (hv : vs[off]? = some v) :
    (execOp ρ o).run P w = .ok (.value v) w := by
  unfold fldOff at hf
  split at hf
  · rename_i fs hu
    split at hf
    · rename_i fd hfd
      split at hf
      · rename_i n' a' hs ha
        split at hf
        · cases hf
        · cases hf
          simp [execOp, ho, hx, Instr.field, run_underlying hu, hfd, asAgg, part, run_isAgg ha, hv]
      · cases hf
    · cases hf
  · cases hf

theorem s_field {s : TypeId} {x : Operand} {f off n : Nat} {agg : Bool} (ho : o.op = .field s x f) (hf : fldOff P s f = some (off, agg, n)) (hφ : Sub φ w) {ds : List D} (hr : RVL φ h [ρ x] ds)
    (hev : evl P dst (.field off agg n) ds obs K) : OpOut P o ρ w (APost φ h w dst K) := by
  match ds, hr, hev with
  | [.agg cs], hr, hev =>
    obtain ⟨vs, hx, hsz, hc⟩ := hr.1.agg_inv
    simp only [evl] at hev
    cases agg with
    | true =>
      obtain ⟨hle, hk⟩ := hev
      refine OpOut.same hφ (exec_field_agg ho hf hx) hk (.agg _ _ (by simp; omega) ?_)
      intro j d hd
      rw [List.getElem?_take] at hd
      split at hd
      · rename_i hj
        rw [List.getElem?_drop] at hd
        have := hc _ _ hd
        have e : (vs.extract off (off + n)).getD j Go.undef = vs.getD (off + j) Go.undef := by
          have h1 := (List.getElem?_eq_some_iff.1 hd).1
          simp only [Array.getD_eq_getD_getElem?, Array.getElem?_extract]
          rw [if_pos (by omega)]
        rw [e]; exact this
      · cases hd
    | false =>
      simp only [Bool.false_eq_true, if_false] at hev
      split at hev
      · rename_i d hd
        have hlt : off < vs.size := by rw [hsz]; exact (List.getElem?_eq_some_iff.1 hd).1
        have hv : vs[off]? = some (vs.getD off Go.undef) := by simp [Array.getD_eq_getD_getElem?, hlt]
        exact OpOut.same hφ (exec_field_one ho hf hx hv) hev (hc _ _ hd)
      · exact hev.elim

theorem exec_builtin {b : Builtin} {args : Array Operand} {ts : Array TypeId} {v : Value} {w' : World} (ho : o.op = .call { callee := .builtin b, args, argTypes := ts })
    (hb : (builtin b ts o.type (args.map fun | .const _ => true | _ => false) (args.map ρ)).run P w = .ok (.value v) w') : (execOp ρ o).run P w = .ok (.value v) w' := by
  simp only [execOp, ho, resolve, invoke, Sem.run_bind, Sem.run_pure, Result.andThen_ok]
  exact hb

theorem exec_len_slice {t e : TypeId} {x : Operand} {a : Option Addr} {n c : Nat} (ho : o.op = .call { callee := .builtin .len, args := #[x], argTypes := #[t] }) (ht : P.underlying t = some (.slice e))
    (hx : ρ x = .slice a n c) : (execOp ρ o).run P w = .ok (.value (.int .i64 n)) w := by
  refine exec_builtin ho ?_
  simp [builtin, hx, Builtin.len_, run_underlying ht, goInt]

theorem exec_len_str {t : TypeId} {x : Operand} {s : List UInt8} (ho : o.op = .call { callee := .builtin .len, args := #[x], argTypes := #[t] }) (ht : P.underlying t = some .string)
    (hx : ρ x = .string ⟨s.toArray⟩) : (execOp ρ o).run P w = .ok (.value (.int .i64 s.length)) w := by
  refine exec_builtin ho ?_
  have hs : (ByteArray.mk s.toArray).size = s.length := rfl
  simp only [builtin, hx, List.map_toArray, List.map_cons, List.map_nil]
  rw [Sem.run_bind, run_len_string w t o.type _ ht, hs]
  rfl

theorem ob_arr_val {hv : Value} {fz : Bool} {sz : Nat} {e : TypeId} {es : List (List D)} (hob : ObR own φ h w hv (.arr fz sz e es)) : ∃ a c, hv = .slice a es.length c := by
  obtain ⟨_, _, xs, hown, _, _⟩ := hob
  rcases hown.2 with ⟨rfl, h0⟩ | ⟨g, cap, cur, rfl, _⟩
  · exact ⟨none, 0, by rw [h0]⟩
  · exact ⟨_, _, rfl⟩

theorem s_len {t : TypeId} {x : Operand} {str : Bool} (ho : o.op = .call { callee := .builtin .len, args := #[x], argTypes := #[t] })
    (ht : if str then P.underlying t = some .string else ∃ e, P.underlying t = some (.slice e)) (hφ : Sub φ w)
    (hobs : ∀ i ob, obs i = some ob → live (h i) = true → ObR own φ h w (h i) ob) {ds : List D} (hr : RVL φ h [ρ x] ds) (hev : evl P dst (.len str) ds obs K) : OpOut P o ρ w (APost φ h w dst K) := by
  match str, ds, hr, hev with
  | true, [.str s], hr, hev => exact OpOut.same hφ (exec_len_str ho ht hr.1.str_inv) hev (rv_int _ _)
  | false, [.slice es ext], hr, hev =>
    obtain ⟨e, he⟩ := ht
    rcases hr.1.slice_inv.slice_inv with ⟨hx, rfl, rfl⟩ | ⟨b, off, cap, sz, vals, hx, _⟩
    · exact OpOut.same hφ (exec_len_slice ho he hx) hev (rv_int _ _)
    · exact OpOut.same hφ (exec_len_slice ho he hx) hev (rv_int _ _)
  | false, [.nils], hr, hev =>
    obtain ⟨e, he⟩ := ht
    exact OpOut.same hφ (exec_len_slice ho he hr.1.nils_inv) hev (rv_int _ _)
  | false, [.vec id], hr, hev =>
    obtain ⟨e, he⟩ := ht
    simp only [evl] at hev
    split at hev
    · rename_i fz sz et es hob
      obtain ⟨a, c, hv⟩ := ob_arr_val (hobs id _ hob hr.1.vec_live)
      exact OpOut.same hφ (exec_len_slice ho he (hr.1.vec_inv.trans hv)) hev (rv_int _ _)
    · exact hev.elim

theorem exec_iaddr {t e : TypeId} {x y : Operand} {b off n c sz : Nat} {k : IntKind} {i : Int} (ho : o.op = .indexAddr t x y) (ht : P.underlying t = some (.slice e)) (hs : szT P e = some sz)
    (hx : ρ x = .slice (some ⟨b, off, none⟩) n c) (hy : ρ y = .int k i) (h0 : 0 ≤ i) (h1 : i < n) : (execOp ρ o).run P w = .ok (.value (.pointer (some ⟨b, off + i.toNat * sz, none⟩))) w := by
  simp [execOp, ho, hx, hy, Instr.indexAt, run_underlying ht, asIntOf, h0, h1, run_sizeOf hs, Addr.add_lit]

theorem s_iaddr_slice {t e : TypeId} {x y : Operand} {sz : Nat} {k : IntKind} {i : Int} {es ext : List (List D)} (ho : o.op = .indexAddr t x y) (ht : P.underlying t = some (.slice e)) (hs : szT P e = some sz)
    (hφ : Sub φ w) (hr : Rep φ (ρ x) (.slice es ext)) (hy : ρ y = .int k i) (h0 : 0 ≤ i) (h1 : i < es.length) (h2 : (es.getD i.toNat []).length = sz) (hk : K (.fptr (es.getD i.toNat [])) none) :
    OpOut P o ρ w (APost φ h w dst K) := by
  rcases hr.slice_inv with ⟨hx, rfl, rfl⟩ | ⟨b, off, cap, sz', vals, hx, hcap, hsz, hmem, hrep⟩
  · simp at h1; omega
  · have hi : i.toNat < es.length := by omega
    have hget : (es ++ ext)[i.toNat]? = some (es.getD i.toNat []) := by
      rw [List.getElem?_append_left hi]; simp [List.getD, hi]
    have hmem' : es.getD i.toNat [] ∈ es ++ ext := List.mem_of_getElem? hget
    have : sz' = sz := by rw [← h2]; exact (hsz _ hmem').symm
    subst this
    refine OpOut.same hφ (exec_iaddr ho ht hs hx hy h0 (by omega)) hk (.fptr b (off + i.toNat * sz') _ (fun j => vals i.toNat j) ?_ ?_)
    · intro j d hd; exact hmem _ _ _ _ hget hd
    · intro j d hd; exact hrep _ _ _ _ hget hd

theorem s_iaddr {t e : TypeId} {x y : Operand} {sz : Nat} (ho : o.op = .indexAddr t x y) (ht : P.underlying t = some (.slice e)) (hs : szT P e = some sz) (hφ : Sub φ w)
    (hobs : ∀ i ob, obs i = some ob → live (h i) = true → ObR own φ h w (h i) ob) {ds : List D} (hr : RVL φ h [ρ x, ρ y] ds) (hev : evl P dst (.iaddr sz) ds obs K) : OpOut P o ρ w (APost φ h w dst K) := by
  match ds, hr, hev with
  | [.slice es ext, .int k i], hr, hev => exact s_iaddr_slice ho ht hs hφ hr.1.slice_inv hr.2.1.int_inv hev.1 hev.2.1 hev.2.2.1 hev.2.2.2
  | [.vec id, .int k i], hr, hev =>
    simp only [evl] at hev
    split at hev
    · rename_i sz' et es hob
      have hx := hr.1.vec_inv
      exact s_iaddr_slice ho ht hs hφ (by rw [hx]; exact ob_rep (hobs id _ hob hr.1.vec_live)) hr.2.1.int_inv hev.1 hev.2.1 hev.2.2.1 hev.2.2.2
    · rename_i sz' et es hob
      obtain ⟨rfl, h0, h1, hk⟩ := hev
      obtain ⟨hsz, _, xs, hown, _, _⟩ := hobs id _ hob hr.1.vec_live
      have hx := hr.1.vec_inv
      rcases hown.2 with ⟨hv, hn⟩ | ⟨g, cap, cur, hv, _⟩
      · omega
      · refine OpOut.same hφ (exec_iaddr ho ht hs (hx.trans hv) hr.2.1.int_inv h0 h1) hk ?_
        have := RV.vptr (φ := φ) (h := h) id i.toNat 0 g sz' es.length cap (by omega) hv
        simpa using this
    · exact hev.elim

theorem s_index {t : TypeId} {x y : Operand} (ho : o.op = .index t x y) (ht : P.underlying t = some .string) (hφ : Sub φ w) {ds : List D} (hr : RVL φ h [ρ x, ρ y] ds)
    (hev : evl P dst .index ds obs K) : OpOut P o ρ w (APost φ h w dst K) := by
  match ds, hr, hev with
  | [.str s, .int k i], hr, hev =>
    obtain ⟨h0, h1, hk⟩ := hev
    have h2 : 0 ≤ i ∧ i < ((ByteArray.mk s.toArray).size : Int) := ⟨h0, by simpa [ByteArray.size] using h1⟩
    refine OpOut.same hφ (v := .int .u8 (s.getD i.toNat 0).toNat) ?_ hk (rv_int _ _)
    have h3 : i.toNat < s.length := by omega
    simp only [execOp, ho, hr.1.str_inv, hr.2.1.int_inv, Sem.run_bind, run_index_string _ t _ k i ht, h2]
    simp [List.getD, h3, ByteArray.getElem_eq_getElem_data]

theorem s_extract {x : Operand} {i : Nat} (ho : o.op = .extract x i) (hφ : Sub φ w) {ds : List D} (hr : RVL φ h [ρ x] ds) (hev : evl P dst (.extract i) ds obs K) : OpOut P o ρ w (APost φ h w dst K) := by
  match ds, hr, hev with
  | [.tuple cs], hr, hev =>
    obtain ⟨vs, hx, hsz, hc⟩ := hr.1.tuple_inv
    simp only [evl] at hev
    split at hev
    · rename_i d hd
      have hlt : i < vs.size := by rw [hsz]; exact (List.getElem?_eq_some_iff.1 hd).1
      have hv : vs[i]? = some (vs.getD i Go.undef) := by simp [Array.getD_eq_getD_getElem?, hlt]
      exact OpOut.same hφ (v := vs.getD i Go.undef) (by simp only [execOp, ho, hx, Instr.extract, hv]; rfl) hev (hc _ _ hd)
    · exact hev.elim

end
end Go.Sx
