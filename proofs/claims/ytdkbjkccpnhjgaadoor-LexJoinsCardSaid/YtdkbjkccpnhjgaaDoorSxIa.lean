/- Own work: a layer over the kit: plain data, a walk over it, its soundness. -/
import Derived.Test.YtdkbjkccpnhjgaaDoorSxI
set_option linter.unusedSectionVars false
set_option linter.unusedVariables false
set_option linter.unusedSimpArgs false
set_option linter.deprecated false
namespace Go.Sx
open Go.RowKit
variable [Globs] [Codes]

section
variable {P : Program} {o : Oper} {ρ : Operand → Value} {w : World} {φ : Mem} {h : Nat → Value} {dst : Nat} {K : D → Option Ob → Prop} {obs : Nat → Option Ob}

theorem RV.func_inv {f : Fn} {a c : List D} {v : Value} (r : RV φ h v (.func f a c)) : ∃ va vc : Array Value, v = .func f va vc := by
  cases r with
  | pure r => cases r
  | func _ vf vc _ _ hf hc h1 h2 => exact ⟨vf, vc, rfl⟩
theorem RV.yld_inv {i : Nat} {v : Value} (r : RV φ h v (.yld i)) : ∃ b, v = .func (.yield b) #[] #[] := by
  cases r with
  | pure r => cases r
  | yld _ b _ => exact ⟨b, rfl⟩
theorem RV.nilf_inv {v : Value} (r : RV φ h v .nilf) : v = .nilFunc := by cases r with | pure r => cases r; rfl
theorem RV.nilp_inv {v : Value} (r : RV φ h v .nilp) : v = .pointer none := by cases r with | pure r => cases r; rfl
theorem RV.ifc_inv {v : Value} (r : RV φ h v .ifc) : ∃ t x, v = .iface t x := by cases r with | pure r => cases r with | ifc t x => exact ⟨t, x, rfl⟩
theorem RV.raw_inv {u v : Value} (r : RV φ h v (.raw u)) : v = u := by cases r with | pure r => cases r; rfl

theorem s_nilck {x : Operand} (ho : o.op = .nilCheck x) (hφ : Sub φ w) {ds : List D} (hr : RVL φ h [ρ x] ds) (hev : evl P dst .nilck ds obs K) : OpOut P o ρ w (APost φ h w dst K) := by
  match ds, hr, hev with
  | [d], hr, hev =>
    obtain ⟨hn, hk⟩ := hev
    refine OpOut.same hφ (v := ρ x) ?_ hk hr.1
    have hr1 := hr.1
    cases d with
    | ptr i off => obtain ⟨b, _, hv⟩ := hr1.ptr_inv; simp [execOp, ho, hv]
    | fptr cs => obtain ⟨b, off, _, hv, _⟩ := hr1.fptr_inv; simp [execOp, ho, hv]
    | vptr i a j => obtain ⟨b, sz, _, _, _, _, hv⟩ := hr1.vptr_inv; simp [execOp, ho, hv]
    | yld i => obtain ⟨b, hv⟩ := hr1.yld_inv; simp [execOp, ho, hv]
    | func f a c =>
      cases f with
      | func f => obtain ⟨va, vc, hv⟩ := hr1.func_inv; simp [execOp, ho, hv]
      | _ => simp [D.nn] at hn
    | _ => simp [D.nn] at hn

theorem s_mkfn {f : Fn} {first caps : Array Operand} (ho : o.op = .makeFunc f first caps) (hφ : Sub φ w) {ds : List D} (hr : RVL φ h ((first.toList ++ caps.toList).map ρ) ds) (hev : evl P dst (.mkfn f first.size) ds obs K) : OpOut P o ρ w (APost φ h w dst K) := by
  have hlen := hr.length
  simp only [List.length_map, List.length_append, Array.length_toList] at hlen
  obtain ⟨hle, hk⟩ : first.size ≤ ds.length ∧ K (.func f (ds.take first.size) (ds.drop first.size)) none := hev
  refine OpOut.same hφ (v := .func f (first.map ρ) (caps.map ρ)) (by simp [execOp, ho, Instr.makeFunc]) hk (.func _ _ _ _ _ (by simp; omega) (by simp; omega) (fun j d hd => ?_) (fun j d hd => ?_))
  · rw [List.getElem?_take] at hd
    split at hd
    · rename_i hj
      have := hr.get j d hd
      simp only [List.getD, List.map_append] at this
      rw [List.getElem?_append_left (by simpa using hj)] at this
      simpa [Array.getD_eq_getD_getElem?] using this
    · cases hd
  · rw [List.getElem?_drop] at hd
    have := hr.get _ d hd
    simp only [List.getD, List.map_append] at this
    rw [List.getElem?_append_right (by simp)] at this
    simpa [Array.getD_eq_getD_getElem?] using this

/-- The kind of a type whose values are held against nil. -/
def kdOf (P : Program) (t : TypeId) : Option Nat := match P.underlying t with
  | some (.interface _) => some 0
  | some (.func ..) => some 1
  | some (.pointer _) => some 2
  | _ => none

theorem kdOf_0 {t : TypeId} (h : kdOf P t = some 0) : ∃ ms, P.underlying t = some (.interface ms) := by
  unfold kdOf at h; split at h <;> simp_all
theorem kdOf_1 {t : TypeId} (h : kdOf P t = some 1) : ∃ p q r, P.underlying t = some (.func p q r) := by
  unfold kdOf at h; split at h <;> simp_all
theorem kdOf_2 {t : TypeId} (h : kdOf P t = some 2) : ∃ e, P.underlying t = some (.pointer e) := by
  unfold kdOf at h; split at h <;> simp_all

theorem equal_nil {t : TypeId} {kd : Nat} (ht : kdOf P t = some kd) {a b : D} {r : Bool} (he : eqD kd a b = some r) {x y : Value} (hx : RV φ h x a) (hy : RV φ h y b) : (Op.equal t x y).run P w = .ok r w := by
  have hq : ∀ n : Nat, (Op.equalIn (n + 1) t x y).run P w = .ok r w := fun n => by
    unfold eqD at he
    split at he <;> simp only [Option.some.injEq, reduceCtorEq] at he
    · obtain ⟨ms, hu⟩ := kdOf_0 ht; subst he
      obtain ⟨tt, xx, rfl⟩ := hx.ifc_inv
      rw [hy.raw_inv]; simp [Op.equalIn, run_underlying hu]
    · obtain ⟨ms, hu⟩ := kdOf_0 ht; subst he
      obtain ⟨tt, xx, rfl⟩ := hy.ifc_inv
      rw [hx.raw_inv]; simp [Op.equalIn, run_underlying hu]
    · obtain ⟨ms, hu⟩ := kdOf_0 ht; subst he
      rw [hx.raw_inv, hy.raw_inv]; simp [Op.equalIn, run_underlying hu]
    · obtain ⟨p, q, r', hu⟩ := kdOf_1 ht; subst he
      obtain ⟨va, vc, rfl⟩ := hx.func_inv
      rw [hy.nilf_inv]; simp [Op.equalIn, run_underlying hu]
    · obtain ⟨p, q, r', hu⟩ := kdOf_1 ht; subst he
      obtain ⟨va, rfl⟩ := hx.yld_inv
      rw [hy.nilf_inv]; simp [Op.equalIn, run_underlying hu]
    · obtain ⟨p, q, r', hu⟩ := kdOf_1 ht; subst he
      rw [hx.nilf_inv, hy.nilf_inv]; simp [Op.equalIn, run_underlying hu]
    · obtain ⟨e, hu⟩ := kdOf_2 ht; subst he
      obtain ⟨b, _, rfl⟩ := hx.ptr_inv
      rw [hy.nilp_inv]; simp [Op.equalIn, run_underlying hu]
    · obtain ⟨e, hu⟩ := kdOf_2 ht; subst he
      obtain ⟨b, off, _, rfl, _⟩ := hx.fptr_inv
      rw [hy.nilp_inv]; simp [Op.equalIn, run_underlying hu]
    · obtain ⟨e, hu⟩ := kdOf_2 ht; subst he
      rw [hx.nilp_inv, hy.nilp_inv]; simp [Op.equalIn, run_underlying hu]
  exact hq 9999

def cst : Operand → Bool
  | .const _ => true
  | _ => false

theorem eqGuard_cst {op : BinOp} {t : TypeId} {x y : Operand} {a b : Value} (hc : cst x || cst y) (hna : ∀ vs, a ≠ .agg vs) : (eqGuard op t x y a b).run P w = .ok () w := by
  cases op
  all_goals first
    | rfl
    | (unfold eqGuard
       simp only [Bool.not_true, Bool.false_eq_true, if_false]
       split
       · cases x <;> cases y <;> first | rfl | exact absurd hc (by simp only [cst, Bool.or_self, Bool.false_eq_true, not_false_eq_true])
       · exact absurd rfl (hna _)
       · rfl)

theorem s_eqn {op : BinOp} {t yt : TypeId} {kd : Nat} {x y : Operand} (ho : o.op = .binOp op t x y yt) (ht : kdOf P t = some kd) (hc : cst x || cst y) (hφ : Sub φ w) {ds : List D} (hr : RVL φ h [ρ x, ρ y] ds)
    (hev : evl P dst (.eqn op kd) ds obs K) : OpOut P o ρ w (APost φ h w dst K) := by
  match ds, hr, hev with
  | [a, b], hr, hev =>
    simp only [evl] at hev
    split at hev
    · rename_i r he
      have heq := equal_nil (P := P) (w := w) ht he hr.1 hr.2.1
      have hx := hr.1
      have hform : (∃ t' v, ρ x = .iface t' v) ∨ ρ x = .nilIface ∨ (∃ f a c, ρ x = .func f a c) ∨ ρ x = .nilFunc ∨ (∃ p, ρ x = .pointer p) := by
        unfold eqD at he
        split at he
        · exact .inl (by obtain ⟨tt, v, h⟩ := hx.ifc_inv; exact ⟨tt, v, h⟩)
        · exact .inr (.inl hx.raw_inv)
        · exact .inr (.inl hx.raw_inv)
        · exact .inr (.inr (.inl (by obtain ⟨va, vc, h⟩ := hx.func_inv; exact ⟨_, va, vc, h⟩)))
        · exact .inr (.inr (.inl (by obtain ⟨b, h⟩ := hx.yld_inv; exact ⟨_, _, _, h⟩)))
        · exact .inr (.inr (.inr (.inl hx.nilf_inv)))
        · exact .inr (.inr (.inr (.inr (by obtain ⟨b, _, h⟩ := hx.ptr_inv; exact ⟨_, h⟩))))
        · exact .inr (.inr (.inr (.inr (by obtain ⟨b, off, _, h, _⟩ := hx.fptr_inv; exact ⟨_, h⟩))))
        · exact .inr (.inr (.inr (.inr ⟨_, hx.nilp_inv⟩)))
        · cases he
      have hg : (eqGuard op t x y (ρ x) (ρ y)).run P w = .ok () w := eqGuard_cst hc (by rcases hform with ⟨t', v, h⟩ | h | ⟨f, a, c, h⟩ | h | ⟨p, h⟩ <;> rw [h] <;> simp)
      by_cases h1 : op = .eql
      · subst h1
        simp only [if_true] at hev
        refine OpOut.same hφ (v := .bool r) ?_ hev (rv_bool _)
        have hb : (binOp .eql t (ρ x) (ρ y)).run P w = .ok (.bool r) w := by
          rcases hform with ⟨t', v, h⟩ | h | ⟨f, a, c, h⟩ | h | ⟨p, h⟩ <;> rw [h] at heq ⊢ <;> simp [binOp, heq]
        simp [execOp, ho, hg, hb]
      · by_cases h2 : op = .neq
        · subst h2
          simp only [if_neg h1, if_true] at hev
          refine OpOut.same hφ (v := .bool (!r)) ?_ hev (rv_bool _)
          have hb : (binOp .neq t (ρ x) (ρ y)).run P w = .ok (.bool (!r)) w := by
            rcases hform with ⟨t', v, h⟩ | h | ⟨f, a, c, h⟩ | h | ⟨p, h⟩ <;> rw [h] at heq ⊢ <;> simp [binOp, heq]
          simp [execOp, ho, hg, hb]
        · rw [if_neg h1, if_neg h2] at hev; exact hev.elim
    · exact hev.elim

theorem exec_iaddrA {t e : TypeId} {x y : Operand} {b off len sz : Nat} {k : IntKind} {i : Int} (ho : o.op = .indexAddr t x y) (ht : P.underlying t = some (.array len e)) (hs : szT P e = some sz)
    (hx : ρ x = .pointer (some ⟨b, off, none⟩)) (hy : ρ y = .int k i) (h0 : 0 ≤ i) (h1 : i < len) : (execOp ρ o).run P w = .ok (.value (.pointer (some ⟨b, off + i.toNat * sz, none⟩))) w := by
  simp [execOp, ho, hx, hy, Instr.indexAt, run_underlying ht, asIntOf, Instr.sureAddr, h0, h1, run_sizeOf hs, Addr.add_lit]

theorem s_iaddrA {t e : TypeId} {x y : Operand} {len sz : Nat} (ho : o.op = .indexAddr t x y) (ht : P.underlying t = some (.array len e)) (hs : szT P e = some sz) (hφ : Sub φ w) {ds : List D} (hr : RVL φ h [ρ x, ρ y] ds)
    (hev : evl P dst (.iaddrA len sz) ds obs K) : OpOut P o ρ w (APost φ h w dst K) := by
  match ds, hr, hev with
  | [.fptr cs, .int k i], hr, hev =>
    obtain ⟨h0, h1, hk⟩ := hev
    obtain ⟨b, off, vals, hx, hm, hrep⟩ := hr.1.fptr_inv
    refine OpOut.same hφ (exec_iaddrA ho ht hs hx hr.2.1.int_inv h0 h1) hk (.fptr b (off + i.toNat * sz) (cs.drop (i.toNat * sz)) (fun j => vals (i.toNat * sz + j)) ?_ ?_)
    · intro j d hd
      rw [List.getElem?_drop] at hd
      have := hm _ _ hd
      rwa [← Nat.add_assoc] at this
    · intro j d hd
      rw [List.getElem?_drop] at hd
      exact hrep _ _ hd
  | [.ptr id off, .int k i], hr, hev =>
    obtain ⟨h0, h1, hk⟩ := hev
    obtain ⟨b, hh, hx⟩ := hr.1.ptr_inv
    exact OpOut.same hφ (exec_iaddrA ho ht hs hx hr.2.1.int_inv h0 h1) hk (.ptr id (off + i.toNat * sz) b hh)

theorem mm_run {big : Bool} {k : IntKind} : ∀ (vs : List Value) (ds : List D) (a r : Int), RVL φ h vs ds → mmI big k a ds = some r → (vs.foldlM (if big then Builtin.max2 else Builtin.min2) (.int k a)).run P w = .ok (.int k r) w
  | [], [], a, r, _, he => by simp [mmI] at he; subst he; rfl
  | v :: vs, .int k' b :: ds, a, r, hr, he => by
    simp only [mmI] at he
    split at he
    · rename_i hk
      subst hk
      rw [hr.1.int_inv, List.foldlM_cons, Sem.run_bind]
      cases big
      · simp only [Bool.false_eq_true, if_false] at he ⊢
        have : (Builtin.min2 (.int k' a) (.int k' b)).run P w = .ok (.int k' (if b < a then b else a)) w := rfl
        rw [this, Result.andThen_ok]
        exact mm_run (big := false) vs ds _ r hr.2 he
      · simp only [if_true] at he ⊢
        have : (Builtin.max2 (.int k' a) (.int k' b)).run P w = .ok (.int k' (if b > a then b else a)) w := rfl
        rw [this, Result.andThen_ok]
        exact mm_run (big := true) vs ds _ r hr.2 he
    · cases he
  | [], _ :: _, _, _, hr, _ => hr.elim
  | _ :: _, [], _, _, hr, _ => hr.elim

theorem s_mm {big : Bool} {args : Array Operand} {ts : Array TypeId} (ho : o.op = .call { callee := .builtin (if big then .max else .min), args, argTypes := ts }) (hφ : Sub φ w) {ds : List D} (hr : RVL φ h (args.toList.map ρ) ds)
    (hev : evl P dst (.mm big) ds obs K) : OpOut P o ρ w (APost φ h w dst K) := by
  match ds, hev with
  | .int k a :: ds, hev =>
    simp only [evl] at hev
    split at hev
    · rename_i r hm
      cases hl : args.toList with
      | nil => rw [hl] at hr; exact hr.elim
      | cons x xs =>
        rw [hl] at hr
        have h1 := hr.1.int_inv
        refine OpOut.same hφ (v := .int k r) (exec_builtin (b := if big then .max else .min) (args := args) (ts := ts) ho ?_) hev (rv_int _ _)
        have hrun := mm_run (P := P) (w := w) (xs.map ρ) ds a r hr.2 hm
        have hargs : (args.map ρ).toList = .int k a :: xs.map ρ := by rw [Array.toList_map, hl, List.map_cons, h1]
        cases big
        · simp only [Bool.false_eq_true, if_false] at hrun ⊢
          simp only [builtin, Builtin.min_, hargs, Sem.run_bind, hrun, Result.andThen_ok]
          rfl
        · simp only [if_true] at hrun ⊢
          simp only [builtin, Builtin.max_, hargs, Sem.run_bind, hrun, Result.andThen_ok]
          rfl
    · exact hev.elim

end
end Go.Sx
