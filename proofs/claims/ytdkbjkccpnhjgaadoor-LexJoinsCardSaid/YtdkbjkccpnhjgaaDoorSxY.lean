/- Own work: a layer over the kit: plain data, a walk over it, its soundness. -/
import Derived.Test.YtdkbjkccpnhjgaaDoorSxX
set_option linter.unusedSectionVars false
set_option linter.unusedVariables false
set_option linter.unusedSimpArgs false
set_option linter.deprecated false
namespace Go.Sx
open Go.RowKit
variable [Globs] [Codes]

def binIE (op : BinOp) (k : IntKind) (a b : Int) : Option D :=
  match op with
  | .add => some (.int k (k.wrap (a + b)))
  | .sub => some (.int k (k.wrap (a - b)))
  | .mul => some (.int k (k.wrap (a * b)))
  | .quo => if b = 0 then none else some (.int k (k.wrap (a.tdiv b)))
  | .rem => if b = 0 then none else some (.int k (a.tmod b))
  | .eql => some (.bool (decide (a = b)))
  | .neq => some (.bool (!decide (a = b)))
  | .lss => some (.bool (decide (a < b)))
  | .leq => some (.bool (decide (a ≤ b)))
  | .gtr => some (.bool (decide (b < a)))
  | .geq => some (.bool (decide (b ≤ a)))
  | .and => some (.int k (bitI .and k a b))
  | .or => some (.int k (bitI .or k a b))
  | .xor => some (.int k (bitI .xor k a b))
  | .andNot => some (.int k (bitI .andNot k a b))
  | _ => none

def binSE (op : BinOp) (a b : List UInt8) : Option D :=
  match op with
  | .add => if a.length + b.length ≤ 4611686018427387904 then some (.str (a ++ b)) else none
  | .eql => some (.bool (decide (a = b)))
  | .neq => some (.bool (!decide (a = b)))
  | .lss => some (.bool (Op.bytesLess a b))
  | .leq => some (.bool (Op.bytesLess a b || decide (a = b)))
  | .gtr => some (.bool (!(Op.bytesLess a b || decide (a = b))))
  | .geq => some (.bool (!Op.bytesLess a b))
  | _ => none

def one1 (d : Option D) : Option (D × Option Ob) := match d with
  | some d => some (d, none)
  | none => none

def callR (dst : Nat) : D → D × Option Ob
  | .own sz e es => (.vec dst, some (.arr true sz e es))
  | r => (r, none)

/-- An operation, worked out. -/
def evE (fn : FuncId → List D → Option D) (dst : Nat) (o : AOp) (xs : List D) (obs : Nat → Option Ob) : Option (D × Option Ob) :=
  match o, xs with
  | .mv, [d] => some (d, none)
  | .pick, [.bool c, a, b] => some (if c then a else b, none)
  | .bin op, [.int k a, .int k' b] => if k = k' then one1 (binIE op k a b) else none
  | .bin op, [.str a, .str b] => one1 (binSE op a b)
  | .binb .eql, [.bool a, .bool b] => some (.bool (a == b), none)
  | .binb .neq, [.bool a, .bool b] => some (.bool (!(a == b)), none)
  | .un .not, [.bool a] => some (.bool (!a), none)
  | .un .neg, [.int k a] => some (.int k (k.wrap (0 - a)), none)
  | .conv k, [.int _ n] => some (.int k (k.wrap n), none)
  | .len true, [.str s] => some (.int .i64 s.length, none)
  | .len false, [.slice es _] => some (.int .i64 es.length, none)
  | .len false, [.nils] => some (.int .i64 0, none)
  | .len false, [.vec id] => match obs id with
    | some (.arr _ _ _ es) => some (.int .i64 es.length, none)
    | _ => none
  | .box, [d] => if D.okc d = true then some (.ptr dst 0, some (.cells d.cells)) else none
  | .alloc z, [] => some (.ptr dst 0, some (.cells z))
  | .build z ps, ds => match buildD obs z ps ds with
    | some cs => some (.agg cs, none)
    | none => none
  | .bslice fz sz n e z ps, ds => match buildD obs z ps ds with
    | some cs => if cs.all D.pur = true then some (.vec dst, some (.arr fz sz e (chunk sz n cs))) else none
    | none => none
  | .load agg sz, [.ptr id off] => match obs id with
    | some (.cells cs) => match agg with
      | true => if off + sz ≤ cs.length then some (.agg (((cs.drop off).take sz).map (dv obs)), none) else none
      | false => match cs[off]? with
        | some d => some (d, none)
        | none => none
    | _ => none
  | .load agg sz, [.fptr cs] => match agg with
    | true => if sz ≤ cs.length then some (.agg (cs.take sz), none) else none
    | false => match cs with
      | d :: _ => some (d, none)
      | [] => none
  | .faddr off, [.ptr id o] => some (.ptr id (o + off), none)
  | .faddr off, [.fptr cs] => some (.fptr (cs.drop off), none)
  | .faddr off, [.vptr id i j] => some (.vptr id i (j + off), none)
  | .field off agg sz, [.agg cs] => match agg with
    | true => if off + sz ≤ cs.length then some (.agg ((cs.drop off).take sz), none) else none
    | false => match cs[off]? with
      | some d => some (d, none)
      | none => none
  | .iaddr sz, [.slice es _, .int _ n] => if 0 ≤ n ∧ n < es.length ∧ (es.getD n.toNat []).length = sz then some (.fptr (es.getD n.toNat []), none) else none
  | .iaddr sz, [.vec id, .int _ n] => match obs id with
    | some (.arr true _ _ es) => if 0 ≤ n ∧ n < es.length ∧ (es.getD n.toNat []).length = sz then some (.fptr (es.getD n.toNat []), none) else none
    | some (.arr false sz' _ es) => if sz' = sz ∧ 0 ≤ n ∧ n < es.length then some (.vptr id n.toNat 0, none) else none
    | _ => none
  | .index, [.str s, .int _ n] => if 0 ≤ n ∧ n < s.length then some (.int .u8 (s.getD n.toNat 0).toNat, none) else none
  | .sliceS lo hi, .str s :: bs => match bounds lo hi s.length bs with
    | some (a, b) => if 0 ≤ a ∧ a ≤ b ∧ b ≤ s.length then some (.str ((s.take b.toNat).drop a.toNat), none) else none
    | none => none
  | .slice sz lo hi, d :: bs => match sliceOf obs d with
    | some (es, ext) => match bounds lo hi es.length bs with
      | some (a, b) => if ((es ++ ext).all fun q => q.length == sz) = true ∧ 0 ≤ a ∧ a ≤ b ∧ b ≤ (es ++ ext).length then some (.slice (((es ++ ext).take b.toNat).drop a.toNat) ((es ++ ext).drop b.toNat), none) else none
      | none => none
    | none => none
  | .extract i, [.tuple ds] => match ds[i]? with
    | some d => some (d, none)
    | none => none
  | .call f, ds => match fn f (ds.map (dv obs)) with
    | some r => some (callR dst r)
    | none => none
  | .nilck, [d] => if D.nn d = true then some (d, none) else none
  | .mkfn f n, ds => if n ≤ ds.length then some (.func f (ds.take n) (ds.drop n), none) else none
  | .eqn op kd, [a, b] => match eqD kd a b with
    | some r => match op with
      | .eql => some (.bool r, none)
      | .neq => some (.bool (!r), none)
      | _ => none
    | none => none
  | .iaddrA len sz, [.fptr cs, .int _ n] => if 0 ≤ n ∧ n < len then some (.fptr (cs.drop (n.toNat * sz)), none) else none
  | .iaddrA len sz, [.ptr id off, .int _ n] => if 0 ≤ n ∧ n < len then some (.ptr id (off + n.toNat * sz), none) else none
  | .mm big, .int k a :: ds => match mmI big k a ds with
    | some r => some (.int k r, none)
    | none => none
  | .sh left, [.int k a, .int _ b] => if 0 ≤ b then some (.int k (shI left k a b), none) else none
  | _, _ => none

section
variable {P : Program} {fn : FuncId → List D → Option D} {dst : Nat} {obs : Nat → Option Ob} {K : D → Option Ob → Prop}

theorem binIE_sound {op : BinOp} {k : IntKind} {a b : Int} {d : D} {K : D → Prop} (h : binIE op k a b = some d) (hk : K d) : binI op k a b K := by
  cases op <;> simp only [binIE, Option.some.injEq, reduceCtorEq] at h <;> simp only [binI] <;> first | (subst h; exact hk) | (split at h; cases h; simp only [Option.some.injEq] at h; subst h; exact ⟨by assumption, hk⟩)
theorem binSE_sound {op : BinOp} {a b : List UInt8} {d : D} {K : D → Prop} (h : binSE op a b = some d) (hk : K d) : binS op a b K := by
  cases op <;> simp only [binSE, Option.some.injEq, reduceCtorEq] at h <;> simp only [binS] <;> first | (subst h; exact hk) | (split at h; simp only [Option.some.injEq] at h; subst h; exact ⟨by assumption, hk⟩; cases h)

theorem one1_some {x : Option D} {d : D} {nb : Option Ob} (h : one1 x = some (d, nb)) : x = some d ∧ nb = none := by
  unfold one1 at h
  split at h
  · simp only [Option.some.injEq, Prod.mk.injEq] at h; exact ⟨by rw [h.1], h.2.symm⟩
  · cases h

theorem evE_sound (hfn : ∀ f as r, fn f as = some r → FnOK P f as r) {op : AOp} {xs : List D} {d : D} {nb : Option Ob} (h : evE fn dst op xs obs = some (d, nb)) (hk : K d nb) : evl P dst op xs obs K := by
  unfold evE at h
  split at h
  all_goals try simp only [evl]
  all_goals first
    | (simp only [Option.some.injEq, Prod.mk.injEq] at h; obtain ⟨rfl, rfl⟩ := h; exact hk)
    | (cases h; done)
    | (obtain ⟨h1, rfl⟩ := one1_some h; exact binSE_sound h1 hk)
    | (split at h
       · rename_i hc; obtain ⟨h1, rfl⟩ := one1_some h; exact ⟨hc, binIE_sound h1 hk⟩
       · cases h)
    | (split at h
       · rename_i r hr
         refine ⟨r, hfn _ _ _ hr, ?_⟩
         simp only [Option.some.injEq] at h
         cases r <;> (simp only [callR, Prod.mk.injEq] at h; obtain ⟨rfl, rfl⟩ := h; exact hk)
       · cases h)
    | skip
  all_goals
    repeat' split at h
  all_goals first
    | (cases h; done)
    | skip
  all_goals try (simp only [Option.some.injEq, Prod.mk.injEq] at h; obtain ⟨rfl, rfl⟩ := h)
  all_goals first
    | exact hk
    | exact ⟨by assumption, hk⟩
    | (simp [*]; done)
    | (rename_i hc; exact ⟨hc.1, hc.2, hk⟩)
    | (rename_i hc; exact ⟨hc.1, hc.2.1, hc.2.2, hk⟩)
    | (simp only [*]; exact hk)
    | (simp only [*]; exact ⟨by assumption, hk⟩)
    | (rename_i hc; simp only [*]; exact ⟨hc.1, hc.2.1, hc.2.2, hk⟩)
    | skip
  all_goals first
    | (rename_i cs heq agg hle; rw [heq]; exact ⟨hle, hk⟩)
    | (rename_i sz e es heq hc; rw [heq]; exact ⟨hc.1, hc.2.1, hc.2.2, hk⟩)
    | (rename_i es ext heq1 x2 a b heq hc
       rw [heq1]
       simp only [heq]
       refine ⟨?_, hc.2.1, hc.2.2.1, hc.2.2.2, hk⟩
       have := hc.1
       simp only [List.all_eq_true, beq_iff_eq] at this
       exact this)

end

/-- The guard, worked out. -/
def gudE {α : Type} (g : Option (Nat × Bool)) (s : St) (body skip : Option α) : Option α :=
  match g with
  | none => body
  | some (t, want) => match lk s.tm t with
    | some (.bool b) => if b = want then body else skip
    | some (.tuple []) => skip
    | _ => none

theorem gudE_sound {α : Type} {g : Option (Nat × Bool)} {s : St} {body skip : Option α} {x : α} (h : gudE g s body skip = some x) {p q : Prop} (hp : body = some x → p) (hq : skip = some x → q) : gud g s p q := by
  cases g with
  | none => exact hp h
  | some gw =>
    obtain ⟨t, w⟩ := gw
    simp only [gudE] at h
    simp only [gud]
    split at h
    · rename_i b0 heq
      rw [heq]
      simp only
      split at h
      · rename_i hb; rw [if_pos hb]; exact hp h
      · rename_i hb; rw [if_neg hb]; exact hq h
    · rename_i heq; rw [heq]; exact hq h
    · cases h

/-- The names that are handed over. -/
def handN (s : St) (ds : List D) : List Nat := (reach s.ob (D.collL ds [])).filter fun i => (lk s.ob i).isSome

def nodupB : List Nat → Bool
  | [] => true
  | i :: r => !(r.contains i) && nodupB r

theorem nodupB_sound : ∀ {l : List Nat}, nodupB l = true → l.Nodup
  | [], _ => List.nodup_nil
  | i :: r, h => by
    simp only [nodupB, Bool.and_eq_true, Bool.not_eq_true'] at h
    refine List.nodup_cons.2 ⟨fun hm => ?_, nodupB_sound h.2⟩
    rw [List.contains_iff_mem.2 hm] at h; exact absurd h.1 (by simp)

theorem handN_some {s : St} {ds : List D} : ∀ i ∈ handN s ds, (lk s.ob i).isSome := fun i hi => by
  have := (List.mem_filter.1 hi).2
  simpa using this

abbrev CallF := D → List D → Obs → Option (D × Obs)

/-- The effect of an operation, worked out. -/
def hasE (cl : CallF) (fn : FuncId → List D → Option D) (b : Nat) (o : SOp) (s : St) : Option Eff :=
  match o with
  | .a dst g op xs => gudE g s (match evE fn (b + dst.getD 0) op (xs.map s.get) (lk s.ob) with
      | some (d, none) => some ⟨rdA (lk s.ob) op (xs.map s.get), dst.map (·, d), [], none⟩
      | some (d, some ob) => if dst.isSome then some ⟨rdA (lk s.ob) op (xs.map s.get), dst.map (·, d), [(b + dst.getD 0, some ob)], none⟩ else none
      | none => none) (some ⟨[], dst.map (·, .nov), [], none⟩)
  | .st g sz x y => gudE g s (match s.get x with
      | .ptr id off => match lk s.ob id with
        | some (.cells cs) => if D.flat (s.get y) = true ∧ (s.get y).cells.length = sz ∧ off + sz ≤ cs.length then some ⟨[id], none, [(id, some (.cells (setAt cs off (s.get y).cells)))], none⟩ else none
        | _ => none
      | _ => none) (some ⟨[], none, [], none⟩)
  | .app dst g fz sz et x y => gudE g s (match sliceOf (lk s.ob) (s.get y) with
      | some (ys, _) => if (ys.all fun q => q.length == sz) = true then (match s.get x with
        | .nils => if ys.length ≤ 1073741824 then some ⟨vids [s.get y], some (dst, .vec (b + dst)), [(b + dst, some (.arr fz sz et ys))], none⟩ else none
        | .vec id => match lk s.ob id with
          | some (.arr fz' sz' e' es) => if sz' = sz ∧ e' = et ∧ es.length + ys.length ≤ 1073741824 then some ⟨id :: vids [s.get y], some (dst, .vec (b + dst)), [(b + dst, some (.arr fz' sz et (es ++ ys))), (id, none)], none⟩ else none
          | _ => none
        | _ => none) else none
      | none => none) (some ⟨[], some (dst, .nov), [], none⟩)
  | .cd dst g x xs => gudE g s
      (let as := xs.map fun x => dva (lk s.ob) (s.get x)
       let nm := handN s (s.get x :: as)
       if nodupB nm = true then (match cl ((s.get x).ren (idx · nm)) (as.map (D.ren (idx · nm))) (handO s.ob (idx · nm) 0 nm) with
         | some (r, ob') => some ⟨nm ++ vids (xs.map s.get), dst.map (·, r.ren (bkN (s.base b) nm)), (renO (fun j => match nm[j]? with | some i => i | none => s.base b + j) (bkN (s.base b) nm) ob').map (fun p => (p.1, some p.2)) ++ nm.map (·, none), some (s.base b)⟩
         | none => none) else none)
      (some ⟨[], dst.map (·, .nov), [], none⟩)

theorem hasE_sound {P : Program} {cl : CallF} {fn : FuncId → List D → Option D} (hfn : ∀ f as r, fn f as = some r → FnOK P f as r) (hcl : ∀ d as ob r ob', cl d as ob = some (r, ob') → CallL P d as ob fun r0 ob0 => r0 = r ∧ ob0 = ob') {b : Nat} {o : SOp} {s : St} {e : Eff}
    (h : hasE cl fn b o s = some e) : Has P b o s e ∧ (∀ q, e.cd = some q → s.top ≤ q) := by
  have hcd : ∀ q, e.cd = some q → s.top ≤ q := by
    have key : ∀ {g : Option (Nat × Bool)} {body skip : Option Eff}, gudE g s body skip = some e → (body = some e → ∀ q, e.cd = some q → s.top ≤ q) → (skip = some e → e.cd = none) → ∀ q, e.cd = some q → s.top ≤ q := fun {g body skip} h h1 h2 => by
      have := gudE_sound h (p := ∀ q, e.cd = some q → s.top ≤ q) (q := e.cd = none) h1 h2
      cases g with
      | none => exact this
      | some gw =>
        obtain ⟨t, w⟩ := gw
        simp only [gud] at this
        split at this
        · split at this
          · exact this
          · intro q hq; rw [this] at hq; cases hq
        · intro q hq; rw [this] at hq; cases hq
        · exact this.elim
    cases o with
    | a dst g op xs =>
      refine key h (fun hb q hq => ?_) (fun hs => by cases hs; rfl)
      split at hb
      · cases hb; cases hq
      · split at hb
        · cases hb; cases hq
        · cases hb
      · cases hb
    | st g sz x y =>
      refine key h (fun hb q hq => ?_) (fun hs => by cases hs; rfl)
      split at hb
      · split at hb
        · split at hb
          · cases hb; cases hq
          · cases hb
        · cases hb
      · cases hb
    | app dst g fz sz et x y =>
      refine key h (fun hb q hq => ?_) (fun hs => by cases hs; rfl)
      split at hb
      · split at hb
        · split at hb
          · split at hb
            · cases hb; cases hq
            · cases hb
          · split at hb
            · split at hb
              · cases hb; cases hq
              · cases hb
            · cases hb
          · cases hb
        · cases hb
      · cases hb
    | cd dst g x xs =>
      refine key h (fun hb q hq => ?_) (fun hs => by cases hs; rfl)
      simp only at hb
      split at hb
      · split at hb
        · cases hb; cases hq; exact Nat.le_max_right _ _
        · cases hb
      · cases hb
  refine ⟨?_, hcd⟩
  cases o with
  | a dst g op xs =>
    refine gudE_sound h (fun hb => ?_) (fun hs => by cases hs; rfl)
    split at hb
    · rename_i d hev
      cases hb
      exact ⟨rfl, rfl, evE_sound hfn hev ⟨rfl, rfl⟩⟩
    · rename_i d ob hev
      split at hb
      · rename_i hds
        cases hb
        exact ⟨rfl, rfl, evE_sound hfn hev ⟨rfl, hds, rfl⟩⟩
      · cases hb
    · cases hb
  | st g sz x y =>
    refine gudE_sound h (fun hb => ?_) (fun hs => by cases hs; rfl)
    simp only [HasB]
    split at hb
    · rename_i id off hx
      split at hb
      · rename_i cs hl
        split at hb
        · rename_i hc
          cases hb
          simp only [hx, hl]
          exact ⟨hc.1, hc.2.1, hc.2.2, trivial⟩
        · cases hb
      · cases hb
    · cases hb
  | app dst g fz sz et x y =>
    refine gudE_sound h (fun hb => ?_) (fun hs => by cases hs; rfl)
    simp only [HasB]
    split at hb
    · rename_i ys ext hso
      split at hb
      · rename_i hall
        simp only [hso]
        refine ⟨by simpa using hall, ?_⟩
        split at hb
        · rename_i hx
          split at hb
          · cases hb; simp only [hx]; exact ⟨by assumption, trivial⟩
          · cases hb
        · rename_i id hx
          split at hb
          · rename_i fz' sz' e' es hl
            split at hb
            · rename_i hc; cases hb; simp only [hx, hl]; exact ⟨hc.1, hc.2.1, hc.2.2, trivial⟩
            · cases hb
          · cases hb
        · cases hb
      · cases hb
    · cases hb
  | cd dst g x xs =>
    refine gudE_sound h (fun hb => ?_) (fun hs => by cases hs; rfl)
    simp only at hb
    split at hb
    · rename_i hnd
      split at hb
      · rename_i r ob' hc
        cases hb
        exact ⟨_, r, ob', _, nodupB_sound hnd, handN_some, Nat.le_max_left _ _, hcl _ _ _ _ _ hc, rfl⟩
      · cases hb
    · cases hb

/-- An operation, worked out: the state behind it. -/
def opE (cl : CallF) (fn : FuncId → List D → Option D) (b : Nat) (o : SOp) (s : St) : Option St :=
  match o with
  | .a dst g op xs => gudE g s (match evE fn (b + dst.getD 0) op (xs.map s.get) (lk s.ob) with
      | some (d, none) => some (s.put dst d)
      | some (d, some ob) => match dst with
        | some t => if s.clean (b + t) = true then some (s.put2 t (b + t) d ob) else none
        | none => none
      | none => none) (some (s.put dst .nov))
  | .st g sz x y => gudE g s (match s.get x with
      | .ptr id off => match lk s.ob id with
        | some (.cells cs) => if D.flat (s.get y) = true ∧ (s.get y).cells.length = sz ∧ off + sz ≤ cs.length then some { s with ob := (id, .cells (setAt cs off (s.get y).cells)) :: eraseId id s.ob } else none
        | _ => none
      | _ => none) (some s)
  | .app dst g fz sz et x y => gudE g s (match sliceOf (lk s.ob) (s.get y) with
      | some (ys, _) => if (ys.all fun q => q.length == sz) = true then (match s.get x with
        | .nils => if ys.length ≤ 1073741824 ∧ s.clean (b + dst) = true then some (s.put2 dst (b + dst) (.vec (b + dst)) (.arr fz sz et ys)) else none
        | .vec id => match lk s.ob id with
          | some (.arr fz' sz' e' es) => if sz' = sz ∧ e' = et ∧ es.length + ys.length ≤ 1073741824 ∧ s.clean (b + dst) = true then some (St.put2 ⟨s.tm, eraseId id s.ob⟩ dst (b + dst) (.vec (b + dst)) (.arr fz' sz et (es ++ ys))) else none
          | _ => none
        | _ => none) else none
      | none => none) (some (s.put (some dst) .nov))
  | .cd dst g x xs => gudE g s
      (let as := xs.map fun x => dva (lk s.ob) (s.get x)
       let nm := handN s (s.get x :: as)
       if nodupB nm = true then (match cl ((s.get x).ren (idx · nm)) (as.map (D.ren (idx · nm))) (handO s.ob (idx · nm) 0 nm) with
         | some (r, ob') => some ((s.back (s.base b) nm ob').put dst (r.ren (bkN (s.base b) nm)))
         | none => none) else none)
      (some (s.put dst .nov))

theorem opE_sound {P : Program} {cl : CallF} {fn : FuncId → List D → Option D} (hfn : ∀ f as r, fn f as = some r → FnOK P f as r) (hcl : ∀ d as ob r ob', cl d as ob = some (r, ob') → CallL P d as ob fun r0 ob0 => r0 = r ∧ ob0 = ob') {b : Nat} {o : SOp} {s s' : St} {K : St → Prop}
    (h : opE cl fn b o s = some s') (hk : K s') : stp P b o s K := by
  cases o with
  | a dst g op xs =>
    refine gudE_sound h (fun hb => ?_) (fun hs => by cases hs; exact hk)
    split at hb
    · rename_i d hev
      cases hb
      exact evE_sound hfn hev hk
    · rename_i d ob hev
      split at hb
      · split at hb
        · rename_i hcl'
          cases hb
          exact evE_sound hfn hev ⟨hcl', hk⟩
        · cases hb
      · cases hb
    · cases hb
  | st g sz x y =>
    refine gudE_sound h (fun hb => ?_) (fun hs => by cases hs; exact hk)
    split at hb
    · rename_i id off hx
      split at hb
      · rename_i cs hl
        split at hb
        · rename_i hc
          cases hb
          simp only [hx, hl]
          exact ⟨hc.1, hc.2.1, hc.2.2, hk⟩
        · cases hb
      · cases hb
    · cases hb
  | app dst g fz sz et x y =>
    refine gudE_sound h (fun hb => ?_) (fun hs => by cases hs; exact hk)
    split at hb
    · rename_i ys ext hso
      split at hb
      · rename_i hall
        simp only [hso]
        refine ⟨by simpa using hall, ?_⟩
        split at hb
        · rename_i hx
          split at hb
          · rename_i hc; cases hb; simp only [hx]; exact ⟨hc.1, hc.2, hk⟩
          · cases hb
        · rename_i id hx
          split at hb
          · rename_i fz' sz' e' es hl
            split at hb
            · rename_i hc; cases hb; simp only [hx, hl]; exact ⟨hc.1, hc.2.1, hc.2.2.1, hc.2.2.2, hk⟩
            · cases hb
          · cases hb
        · cases hb
      · cases hb
    · cases hb
  | cd dst g x xs =>
    refine gudE_sound h (fun hb => ?_) (fun hs => by cases hs; exact hk)
    simp only at hb
    split at hb
    · rename_i hnd
      split at hb
      · rename_i r ob' hc
        cases hb
        exact ⟨_, _, _, nodupB_sound hnd, handN_some, Nat.le_max_left _ _, Nat.le_max_right _ _, hcl _ _ _ _ _ hc, by rintro r0 ob0 ⟨rfl, rfl⟩; exact hk⟩
      · cases hb
    · cases hb

/-- Operations in their order, worked out. -/
def opsE (cl : CallF) (fn : FuncId → List D → Option D) (b : Nat) : List SOp → St → Option St
  | [], s => some s
  | o :: r, s => match opE cl fn b o s with
    | some s' => opsE cl fn b r s'
    | none => none

theorem opsE_sound {P : Program} {cl : CallF} {fn : FuncId → List D → Option D} (hfn : ∀ f as r, fn f as = some r → FnOK P f as r) (hcl : ∀ d as ob r ob', cl d as ob = some (r, ob') → CallL P d as ob fun r0 ob0 => r0 = r ∧ ob0 = ob') {b : Nat} :
    ∀ {ops : List SOp} {s s' : St} {K : St → Prop}, opsE cl fn b ops s = some s' → K s' → stps P b ops s K
  | [], s, s', K, h, hk => by cases h; exact hk
  | o :: r, s, s', K, h, hk => by
    simp only [opsE] at h
    split at h
    · rename_i s1 h1
      exact opE_sound hfn hcl h1 (opsE_sound hfn hcl h hk)
    · cases h

theorem stp_mono {P : Program} {b : Nat} {o : SOp} {s : St} {K K' : St → Prop} (h : stp P b o s K) (hk : ∀ s, K s → K' s) : stp P b o s K' := by
  cases o with
  | a dst g op xs =>
    refine gud_mono (fun hb => evl_mono hb fun d nb hq => ?_) (hk _) h
    cases nb with
    | none => exact hk _ hq
    | some ob => cases dst with
      | none => exact hq
      | some t => exact ⟨hq.1, hk _ hq.2⟩
  | st g sz x y =>
    refine gud_mono (fun hb => ?_) (hk _) h
    split at hb
    · rename_i id off hx
      split at hb
      · rename_i cs hl
        exact ⟨hb.1, hb.2.1, hb.2.2.1, hk _ hb.2.2.2⟩
      · exact hb.elim
    · exact hb.elim
  | app dst g fz sz e x y =>
    refine gud_mono (fun hb => ?_) (hk _) h
    split at hb
    · rename_i ys ext hso
      refine ⟨hb.1, ?_⟩
      have h2 := hb.2
      split at h2
      · exact ⟨h2.1, h2.2.1, hk _ h2.2.2⟩
      · rename_i id hx
        split at h2
        · exact ⟨h2.1, h2.2.1, h2.2.2.1, h2.2.2.2.1, hk _ h2.2.2.2.2⟩
        · exact h2.elim
      · exact h2.elim
    · exact hb.elim
  | cd dst g x xs =>
    refine gud_mono (fun hb => ?_) (hk _) h
    obtain ⟨nm, R, base, h1, h2, h3, h4, h5, h6⟩ := hb
    exact ⟨nm, R, base, h1, h2, h3, h4, h5, fun r ob' hr => hk _ (h6 r ob' hr)⟩

theorem stps_mono {P : Program} {b : Nat} : ∀ {ops : List SOp} {s : St} {K K' : St → Prop}, stps P b ops s K → (∀ s, K s → K' s) → stps P b ops s K'
  | [], _, _, _, h, hk => hk _ h
  | o :: r, _, _, _, h, hk => stp_mono (o := o) h fun _ hs => stps_mono (ops := r) hs hk

/-- The same, with the effects. -/
def canE (cl : CallF) (fn : FuncId → List D → Option D) (b : Nat) : List SOp → St → Option (List Eff × St)
  | [], s => some ([], s)
  | o :: r, s => match hasE cl fn b o s with
    | some e => match canE cl fn b r (s.app e) with
      | some (es, s') => some (e :: es, s')
      | none => none
    | none => none

theorem canE_sound {P : Program} {cl : CallF} {fn : FuncId → List D → Option D} (hfn : ∀ f as r, fn f as = some r → FnOK P f as r) (hcl : ∀ d as ob r ob', cl d as ob = some (r, ob') → CallL P d as ob fun r0 ob0 => r0 = r ∧ ob0 = ob') {b : Nat} :
    ∀ {ops : List SOp} {s s' : St} {es : List Eff}, canE cl fn b ops s = some (es, s') → Canon P b ops s es s'
  | [], s, s', es, h => by simp only [canE, Option.some.injEq, Prod.mk.injEq] at h; obtain ⟨rfl, rfl⟩ := h; rfl
  | o :: r, s, s', es, h => by
    simp only [canE] at h
    split at h
    · rename_i e he
      split at h
      · rename_i es' s'' hc
        simp only [Option.some.injEq, Prod.mk.injEq] at h
        obtain ⟨rfl, rfl⟩ := h
        exact ⟨(hasE_sound hfn hcl he).1, canE_sound hfn hcl hc⟩
      · cases h
    · cases h

end Go.Sx
