/- Own work: a layer over the kit: plain data, a walk over it, its soundness. -/
import Derived.Test.YtdkbjkccpnhjgaaDoorSxP
set_option linter.unusedSectionVars false
set_option linter.unusedVariables false
set_option linter.unusedSimpArgs false
set_option linter.deprecated false
namespace Go.Sx
open Go.RowKit
variable [Globs] [Codes]

def thenS (K : St → Prop) (Q : Exit → St → Prop) : Exit → St → Prop
  | .normal, s => K s
  | e, s => Q e s

def inBlockS (id : Nat) (Q : Exit → St → Prop) : Exit → St → Prop
  | .exit i, s => if i = id then Q .normal s else Q (.exit i) s
  | e, s => Q e s

def dstsOK (N : Nat) (ops : Array Oper) : Bool := ops.toList.all fun o => match o.dst with
  | some d => decide (d < N)
  | none => true

def tmpsG : Option (Nat × Bool) → List Nat
  | some (t, _) => [t]
  | none => []

def tmpsX : List X → List Nat
  | [] => []
  | .t t :: r => t :: tmpsX r
  | .c _ :: r => tmpsX r

/-- Does i stand among those for which j waits? -/
def befor (pre : List Nat) (i j : Nat) : Bool := (pre.getD j 0).testBit i

/-- Those for which the direct ones wait. -/
def reachM (pre : List Nat) : List Edge → Nat → Nat
  | [], m => m
  | e :: r, m => reachM pre r (if Region.binds .any e then (m ||| 2 ^ e.on) ||| pre.getD e.on 0 else m)

/-- What stands in 'pre' is waited for, by each operation. -/
def drawOK (pre : List Nat) (ops : Array Oper) : Bool :=
  (pre.length == ops.size) &&
  (List.range ops.size).all fun i => match ops[i]? with
    | some o => (o.after.toList.all fun e => !Region.binds .any e || decide (e.on < i)) && (pre.getD i 0 &&& reachM pre o.after.toList 0) == pre.getD i 0
    | none => false

/-- What an operation does: the objects that it looks at, the temporary, the objects that it turns. -/
structure Eff where
  rd : List Nat
  tm : Option (Nat × D)
  ob : List (Nat × Option Ob)
  cd : Option Nat

def setO : List (Nat × Option Ob) → Obs → Obs
  | [], ob => ob
  | (i, none) :: r, ob => eraseId i (setO r ob)
  | (i, some o) :: r, ob => (i, o) :: eraseId i (setO r ob)

def St.app (s : St) (e : Eff) : St := ⟨match e.tm with | some (t, d) => (t, d) :: eraseId t s.tm | none => s.tm, setO e.ob s.ob⟩

def vids : List D → List Nat
  | [] => []
  | .vec i :: r => i :: vids r
  | _ :: r => vids r
def pids : List D → List Nat
  | [] => []
  | .ptr i _ :: r => i :: pids r
  | _ :: r => pids r

/-- The objects that an operation looks at. -/
def rdA (obs : Nat → Option Ob) : AOp → List D → List Nat
  | .load true sz, [.ptr id off] => id :: (match obs id with | some (.cells cs) => vids ((cs.drop off).take sz) | _ => [])
  | .load .., xs => pids xs
  | .len _, xs => vids xs
  | .iaddr _, xs => vids xs
  | .slice .., xs => vids xs
  | .build .., xs => vids xs
  | .bslice .., xs => vids xs
  | .call _, xs => vids xs
  | _, _ => []

def SOp.tmps : SOp → List Nat
  | .a _ g _ xs => tmpsX xs ++ tmpsG g
  | .st g _ x y => tmpsX [x, y] ++ tmpsG g
  | .app _ g _ _ _ x y => tmpsX [x, y] ++ tmpsG g
  | .cd _ g x xs => tmpsX (x :: xs) ++ tmpsG g

def SOp.gd : SOp → Option (Nat × Bool)
  | .a _ g _ _ => g
  | .st g _ _ _ => g
  | .app _ g _ _ _ _ _ => g
  | .cd _ g _ _ => g

def SOp.dst : SOp → Option Nat
  | .a d _ _ _ => d
  | .st _ _ _ _ => none
  | .app d _ _ _ _ _ _ => some d
  | .cd d _ _ _ => d

/-- The operation has this effect. -/
def HasB (P : Program) (b : Nat) (o : SOp) (s : St) (e : Eff) : Prop :=
  match o with
  | .a dst _ op xs => e.rd = rdA (lk s.ob) op (xs.map s.get) ∧ e.cd = none ∧ evl P (b + dst.getD 0) op (xs.map s.get) (lk s.ob) fun d nb => e.tm = dst.map (·, d) ∧ match nb with
      | none => e.ob = []
      | some o => dst.isSome = true ∧ e.ob = [(b + dst.getD 0, some o)]
  | .st _ sz x y => match s.get x with
    | .ptr id off => match lk s.ob id with
      | some (.cells cs) => D.flat (s.get y) = true ∧ (s.get y).cells.length = sz ∧ off + sz ≤ cs.length ∧ e = ⟨[id], none, [(id, some (.cells (setAt cs off (s.get y).cells)))], none⟩
      | _ => False
    | _ => False
  | .app dst _ fz sz et x y => match sliceOf (lk s.ob) (s.get y) with
    | some (ys, _) => (∀ q ∈ ys, q.length = sz) ∧ (match s.get x with
      | .nils => ys.length ≤ 1073741824 ∧ e = ⟨vids [s.get y], some (dst, .vec (b + dst)), [(b + dst, some (.arr fz sz et ys))], none⟩
      | .vec id => match lk s.ob id with
        | some (.arr fz' sz' e' es) => sz' = sz ∧ e' = et ∧ es.length + ys.length ≤ 1073741824 ∧ e = ⟨id :: vids [s.get y], some (dst, .vec (b + dst)), [(b + dst, some (.arr fz' sz et (es ++ ys))), (id, none)], none⟩
        | _ => False
      | _ => False)
    | none => False
  | .cd dst _ x xs => ∃ nm r ob' base, nm.Nodup ∧ (∀ i ∈ nm, (lk s.ob i).isSome) ∧ b + 4096 ≤ base ∧
      CallL P ((s.get x).ren (idx · nm)) ((xs.map fun x => dva (lk s.ob) (s.get x)).map (D.ren (idx · nm))) (handO s.ob (idx · nm) 0 nm) (fun r0 ob0 => r0 = r ∧ ob0 = ob') ∧
      e = ⟨nm ++ vids (xs.map s.get), dst.map (·, r.ren (bkN base nm)), (renO (fun j => match nm[j]? with | some i => i | none => base + j) (bkN base nm) ob').map (fun p => (p.1, some p.2)) ++ nm.map (·, none), some base⟩

def Has (P : Program) (b : Nat) (o : SOp) (s : St) (e : Eff) : Prop := gud o.gd s (HasB P b o s e) (e = ⟨[], o.dst.map (·, .nov), [], none⟩)

def Canon (P : Program) (b : Nat) : List SOp → St → List Eff → St → Prop
  | [], s, [], s' => s' = s
  | o :: r, s, e :: es, s' => Has P b o s e ∧ Canon P b r (s.app e) es s'
  | _, _, _, _ => False

def Eff.men (i : Nat) (e : Eff) : Bool := (match e.tm with | some (_, d) => D.men i d | none => false) || e.ob.any fun p => match p.2 with | some o => Ob.men i o | none => false
def otop : List (Nat × Option Ob) → Nat
  | [] => 0
  | (_, none) :: r => otop r
  | (i, some o) :: r => max (max (i + 1) (D.topL o.parts)) (otop r)
def Eff.top (e : Eff) : Nat := max (match e.tm with | some (_, d) => D.top d | none => 0) (otop e.ob)

/-- Two operations of which neither waits for the other: their temporaries. -/
def tmpApart (o1 o2 : SOp) : Bool :=
  (match o1.dst with | some t => !(o2.tmps.contains t) && (o2.dst != some t) | none => true) && (match o2.dst with | some t => !(o1.tmps.contains t) | none => true)

/-- Their objects. -/
def memApart (e1 e2 : Eff) : Bool :=
  match e1.ob, e2.ob with
  | [], [] => true
  | l1, l2 => (l1.all fun p => !(e2.rd.contains p.1) && !(l2.any fun q => q.1 == p.1)) && (l2.all fun p => !(e1.rd.contains p.1))

def statJ (pre : List Nat) (j : Nat) (o2 : SOp) : Nat → List SOp → Bool
  | i, o1 :: r => (befor pre i j || tmpApart o1 o2) && statJ pre j o2 (i + 1) r
  | _, [] => true

def statGo (pre : List Nat) (ops0 : List SOp) : Nat → List SOp → Bool
  | j, o2 :: r => statJ pre j o2 0 (ops0.take j) && statGo pre ops0 (j + 1) r
  | _, [] => true

def loudL : Nat → List Eff → List (Nat × Eff)
  | _, [] => []
  | i, e :: r => match e.ob, e.rd with
    | [], [] => loudL (i + 1) r
    | _, _ => (i, e) :: loudL (i + 1) r

def allI (p : Nat → Eff → Bool) : Nat → List Eff → Bool
  | i, e :: r => p i e && allI p (i + 1) r
  | _, [] => true

def namesGo (b : Nat) (pre : List Nat) (es0 : List Eff) : Nat → List SOp → List Eff → Bool
  | j, o :: r, e :: es => (match e.ob with
      | [] => true
      | _ => match o.dst with
        | some t => allI (fun i x => i == j || befor pre j i || !(x.men (b + t))) 0 es0
        | none => true) && (match e.cd with
      | none => true
      | some q => allI (fun i x => i == j || befor pre j i || decide (x.top ≤ q)) 0 es0) && namesGo b pre es0 (j + 1) r es
  | _, _, _ => true

def dchk (b : Nat) (pre : List Nat) (ops : List SOp) (es : List Eff) (s : St) : Bool :=
  statGo pre ops 0 ops && ((loudL 0 es).all fun x => (loudL 0 es).all fun y => decide (x.1 ≤ y.1) || befor pre y.1 x.1 || memApart y.2 x.2) && namesGo b pre es 0 ops es &&
  (es.all fun e => match e.cd with | some q => decide (s.top ≤ q) | none => true)

/-- What the short text is told beside the program. -/
structure Hints where
  bt : Nat → Bool
  fz : Nat → Bool
  nd : Nat → List Nat
  lv : Nat → List Nat

/-- A loop is known by the first region in it. -/
def codeKey : Code → Nat
  | .region id _ _ => id + 1
  | .seq a b => match codeKey a with | 0 => codeKey b | k => k
  | .cond _ a b => match codeKey a with | 0 => codeKey b | k => k
  | .block _ c => codeKey c
  | .loop c => codeKey c
  | .rangeFunc _ _ a b => match codeKey a with | 0 => codeKey b | k => k
  | .scope c => codeKey c
  | _ => 0

def compC (P : Program) (N : Nat) (hi : Hints) : Code → Option SC
  | .skip => some .skip
  | .ret => some .ret
  | .exit id => some (.exit id)
  | .region id ops draw => match ops.toList.mapM (fun o => compO P hi.bt (hi.fz (o.dst.getD 0)) ops o) with
    | some sops => if dstsOK N ops then (if draw then (if drawOK (hi.nd id) ops && decide (N ≤ 4096) then some (.drw (hi.nd id) sops) else none) else some (.reg sops)) else none
    | none => none
  | .seq a b => match compC P N hi a, compC P N hi b with
    | some a, some b => some (.seq a b)
    | _, _ => none
  | .cond x a b => match compX x, compC P N hi a, compC P N hi b with
    | some x, some a, some b => some (.cond x a b)
    | _, _, _ => none
  | .block id c => (compC P N hi c).map (.block id)
  | .loop c => (compC P N hi c).map (.loop (hi.lv (codeKey c)))
  | .rangeFunc g ps a b => match compX g, compC P N hi a, compC P N hi b with
    | some g, some a, some b => some (.rangeF N g ps a b)
    | _, _, _ => none
  | _ => none

/-- The code of which this is the short text. -/
def CodeIs (P : Program) (N : Nat) (sc : SC) (c : Code) : Prop := ∃ hi, compC P N hi c = some sc

class CodesOf (P : Program) : Prop where
  ci : ∀ N sc c, Codes.CI N sc c ↔ CodeIs P N sc c

/-- The record of a loop. -/
def recd (P : Program) (st : LoopState) (pend : Option Code) (N : Nat) (ps : Array Tmp) (a b : SC) (tm : Env) : Ob :=
  .gen (.loop st pend ps a b N (tm.map (·.1))) (tm.map fun p => (lk tm p.1).getD .undef)

def St.nx (s : St) (bs : Nat) : Nat := max bs s.top

def sw (P : Program) (bs : Nat) : SC → (Exit → St → Prop) → St → Prop
  | .skip, Q, s => Q .normal s
  | .ret, Q, s => Q .ret s
  | .exit id, Q, s => Q (.exit id) s
  | .reg ops, Q, s => stps P (s.nx bs) ops s (Q .normal)
  | .drw pre ops, Q, s => ∃ es s', Canon P (s.nx bs) ops s es s' ∧ dchk (s.nx bs) pre ops es s = true ∧ Q .normal s'
  | .seq a b, Q, s => sw P bs a (thenS (sw P bs b Q) Q) s
  | .cond x a b, Q, s => match s.get x with
    | .bool t => if t then sw P bs a Q s else sw P bs b Q s
    | _ => False
  | .block id c, Q, s => sw P bs c (inBlockS id Q) s
  | .loop _ c, Q, s => ∃ (ts : List Nat) (Inv : Nat → St → Prop), (∃ k, Inv k (s.canon bs ts)) ∧ ∀ k s', Inv k s' → sw P bs c (thenS (fun s'' => ∃ k', k' < k ∧ Inv k' (s''.canon bs ts)) Q) s'
  | .rangeF N g ps a b, Q, s => ∃ nm R, nm.Nodup ∧ (∀ i ∈ nm, (lk ((s.nx bs, recd P .ready none N ps a b s.tm) :: s.ob) i).isSome) ∧ (∃ f a c, s.get g = .func (.func f) a c ∧ pureF P f = true) ∧
      CallL P ((s.get g).ren (idx · nm)) [(D.yld (s.nx bs)).ren (idx · nm)] (handO ((s.nx bs, recd P .ready none N ps a b s.tm) :: s.ob) (idx · nm) 0 nm) R ∧
      ∀ r ob', R r ob' → ∃ st pend ps' asg body N' keys ds, lk (St.back ⟨s.tm, (s.nx bs, recd P .ready none N ps a b s.tm) :: s.ob⟩ (s.nx bs + 1) nm ob').ob (s.nx bs) = some (.gen (.loop st pend ps' asg body N' keys) ds) ∧ st ≠ .busy ∧ (match pend with
          | none => Q .normal ⟨s.tm, eraseId (s.nx bs) (St.back ⟨s.tm, (s.nx bs, recd P .ready none N ps a b s.tm) :: s.ob⟩ (s.nx bs + 1) nm ob').ob⟩
          | some .ret => Q .ret ⟨s.tm, eraseId (s.nx bs) (St.back ⟨s.tm, (s.nx bs, recd P .ready none N ps a b s.tm) :: s.ob⟩ (s.nx bs + 1) nm ob').ob⟩
          | some (.exit i) => Q (.exit i) ⟨s.tm, eraseId (s.nx bs) (St.back ⟨s.tm, (s.nx bs, recd P .ready none N ps a b s.tm) :: s.ob⟩ (s.nx bs + 1) nm ob').ob⟩
          | _ => False)

def mkd (b : Nat) : Deferred := { target := .collected b, args := #[] }

/-- Blocks for the rounds' deferred calls, which stay as they are. -/
def Cx.more (cx : Cx) (ms : List Nat) : Cx := { cx with kp := fun b => (cx.kp b).or (if b ∈ ms then some (.deferred (some [])) else none) }

theorem Cx.more_nil (cx : Cx) : cx.more [] = cx := by
  cases cx
  simp [Cx.more]

theorem Cx.more_more (cx : Cx) (a b : List Nat) : (cx.more a).more b = cx.more (b ++ a) := by
  cases cx
  simp only [Cx.more, Cx.mk.injEq, true_and]
  funext i
  rename_i kp; cases kp i <;> by_cases h1 : i ∈ b <;> by_cases h2 : i ∈ a <;> simp [h1, h2]

def PostM (cx : Cx) (ds : List Deferred) (Q : Exit → St → Prop) : Exit → Act → World → Prop :=
  fun e a w' => ∃ ms : List Nat, (ms.Nodup ∧ ∀ b ∈ ms, cx.kp b = none ∧ cx.w0.heap.size ≤ b) ∧ a.defers = ms.map mkd ++ ds ∧ ∃ s' φ' h', Q e s' ∧ Mod (cx.more ms) s' φ' h' a.tmps w'

theorem PostM.of {cx : Cx} {ds : List Deferred} {Q : Exit → St → Prop} {e : Exit} {s : St} {φ : Mem} {h : Nat → Value} {tmps : Array Value} {w : World} (hq : Q e s) (hm : Mod cx s φ h tmps w) : PostM cx ds Q e ⟨tmps, ds⟩ w :=
  ⟨[], ⟨List.nodup_nil, by simp⟩, rfl, s, φ, h, hq, by rw [Cx.more_nil]; exact hm⟩

/-- What was reached after more marks. -/
theorem PostM.after {cx : Cx} {ds : List Deferred} {ms : List Nat} (hnd : ms.Nodup ∧ ∀ b ∈ ms, cx.kp b = none ∧ cx.w0.heap.size ≤ b) {Q : Exit → St → Prop} {e : Exit} {a : Act} {w : World} (h : PostM (cx.more ms) (ms.map mkd ++ ds) Q e a w) : PostM cx ds Q e a w := by
  obtain ⟨ms', hnd', hdf, s', φ', h', hq, hm⟩ := h
  have hk : ∀ b ∈ ms', cx.kp b = none ∧ b ∉ ms := fun b hb => by
    have := (hnd'.2 b hb).1
    simp only [Cx.more] at this
    cases hq : cx.kp b with
    | some o => rw [hq] at this; cases this
    | none =>
      refine ⟨rfl, fun hmem => ?_⟩
      rw [hq, if_pos hmem] at this
      cases this
  refine ⟨ms' ++ ms, ⟨List.nodup_append.2 ⟨hnd'.1, hnd.1, fun a ha b hb e => (hk a ha).2 (e ▸ hb)⟩, fun b hb => (List.mem_append.1 hb).elim (fun h => ⟨(hk b h).1, (hnd'.2 b h).2⟩) (hnd.2 b)⟩, by rw [hdf, List.map_append, List.append_assoc], s', φ', h', hq, ?_⟩
  rw [Cx.more_more] at hm
  exact hm

section
variable {P : Program} {F : Fence} {n : Nat}

theorem steps_sound {cx : Cx} {ds : List Deferred} {bs : Nat} (hbs : cx.bs ≤ bs) (hgl : GlobOK cx.φ0) (hF : Fence.Open F) {bt fz : Nat → Bool} {ops : Array Oper} {Q : Exit → St → Prop} (l : List Oper) : ∀ (sops : List SOp), l.mapM (fun o => compO P bt (fz (o.dst.getD 0)) ops o) = some sops →
    (∀ o ∈ l, ∀ d, o.dst = some d → d < cx.N) → ∀ (s : St) (φ : Mem) (h : Nat → Value) (tmps : Array Value) (w : World), Mod cx s φ h tmps w → stps P bs sops s (Q .normal) → wpListIn F n P ops (PostM cx ds Q) l ⟨tmps, ds⟩ w := by
  induction l with
  | nil =>
    intro sops hc _ s φ h tmps w hm hst
    simp at hc; subst hc
    exact PostM.of hst hm
  | cons o l ih =>
    intro sops hc hd s φ h tmps w hm hst
    simp only [List.mapM_cons, Option.bind_eq_bind, Option.bind_eq_some_iff, Option.pure_def, Option.some.injEq] at hc
    obtain ⟨so, h1, sops', h2, rfl⟩ := hc
    have hs := step_sound (ds := ds) (n := n) (Q := PostM cx ds Q) hF hbs hgl h1 (hd o (by simp)) hm hst
    have hnext : ∀ a w', NextM cx ds (fun s' => stps P bs sops' s' (Q .normal)) a w' → wpListIn F n P ops (PostM cx ds Q) l a w' := by
      rintro ⟨tm, df⟩ w' ⟨hdf, s', φ', h', hk, hm'⟩
      cases hdf
      exact ih sops' h2 (fun o ho => hd o (List.mem_cons_of_mem _ ho)) s' φ' h' tm w' hm' hk
    unfold wpListIn
    split at hs
    · rename_i hw
      rw [if_pos hw]
      exact Oper.wpIn_mono hnext hs
    · rename_i hw
      rw [if_neg hw]
      exact ⟨hs.1, hnext _ _ hs.2⟩

theorem dstsOK_spec {N : Nat} {ops : Array Oper} (hd : dstsOK N ops = true) : ∀ o ∈ ops.toList, ∀ d, o.dst = some d → d < N := by
  intro o ho d hdst
  have := List.all_eq_true.1 hd o ho
  rw [hdst] at this
  simpa using this

def DrawSound (P : Program) : Prop := ∀ {cx : Cx} {F : Fence} {n : Nat} {ds : List Deferred} (_ : Fence.Open F) {bt fz : Nat → Bool} {ops : Array Oper} {Q : Exit → St → Prop} {sops : List SOp} {pre : List Nat} {id bs : Nat} (_ : cx.bs ≤ bs) (_ : GlobOK cx.φ0)
  (_ : ops.toList.mapM (fun o => compO P bt (fz (o.dst.getD 0)) ops o) = some sops) (_ : dstsOK cx.N ops = true) (_ : cx.N ≤ 4096) (_ : drawOK pre ops = true) (s : St) (φ : Mem) (h : Nat → Value) (tmps : Array Value) (w : World) (_ : s.top ≤ bs),
    Mod cx s φ h tmps w → ∀ (es : List Eff) (s' : St), Canon P bs sops s es s' → dchk bs pre sops es s = true → Q .normal s' → (Code.region id ops true).wpIn F n P (PostM cx ds Q) ⟨tmps, ds⟩ w

/-- The round's record around us lies in the heap. -/
def InRound (F : Fence) (cx : Cx) : Prop := ∀ l, F.round = some l → ∃ r, cx.kp l = some (.loop r)

theorem InRound.more {cx : Cx} (h : InRound F cx) (ms : List Nat) : InRound F (cx.more ms) := fun l hl => by
  obtain ⟨r, hr⟩ := h l hl
  exact ⟨r, by simp only [Cx.more, hr]; rfl⟩

end
end Go.Sx
