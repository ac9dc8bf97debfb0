/- Own work: a layer over the kit: plain data, a walk over it, its soundness. -/
import Derived.RangeFuncRecord
import Derived.Test.YtbcgpkgdbepfbaaGreatDoorSx2
set_option linter.unusedSectionVars false
set_option linter.unusedVariables false
set_option linter.unusedSimpArgs false
set_option linter.deprecated false
namespace Go.Sx
open Go.RowKit
variable [Globs] [Codes]

def thenS (K : St → Prop) (Q : Exit → St → Prop) : Exit → St → Prop
  | .normal, s => K s
  | e, s => Q e s

def inBlockS (id : Nat) (Q : Exit → St → Prop) : Exit → St → Prop
  | .exit i, s => if i = id then Q .normal s else Q (.exit i) s
  | e, s => Q e s

def dstsOK (N : Nat) (ops : Array Oper) : Bool := ops.toList.all fun o => match o.dst with
  | some d => decide (d < N)
  | none => true

def tmpsG : Option (Nat × Bool) → List Nat
  | some (t, _) => [t]
  | none => []

def tmpsX : List X → List Nat
  | [] => []
  | .t t :: r => t :: tmpsX r
  | .c _ :: r => tmpsX r

/-- Does i stand among those for which j waits? -/
def befor (pre : List Nat) (i j : Nat) : Bool := (pre.getD j 0).testBit i

/-- Those for which the direct ones wait. -/
def reachM (pre : List Nat) : List Edge → Nat → Nat
  | [], m => m
  | e :: r, m => reachM pre r (if Region.binds .any e then (m ||| 2 ^ e.on) ||| pre.getD e.on 0 else m)

/-- What stands in 'pre' is waited for, by each operation. -/
def drawOK (pre : List Nat) (ops : Array Oper) : Bool :=
  (pre.length == ops.size) &&
  (List.range ops.size).all fun i => match ops[i]? with
    | some o => (o.after.toList.all fun e => !Region.binds .any e || decide (e.on < i)) && (pre.getD i 0 &&& reachM pre o.after.toList 0) == pre.getD i 0
    | none => false

/-- What an operation does: the objects that it looks at, the temporary, the objects that it turns. -/
structure Eff where
  rd : List Nat
  tm : Option (Nat × D)
  ob : List (Nat × Option Ob)
  cd : Option Nat

def setO : List (Nat × Option Ob) → Obs → Obs
  | [], ob => ob
  | (i, none) :: r, ob => eraseId i (setO r ob)
  | (i, some o) :: r, ob => (i, o) :: eraseId i (setO r ob)

def St.app (s : St) (e : Eff) : St := ⟨match e.tm with | some (t, d) => (t, d) :: eraseId t s.tm | none => s.tm, setO e.ob s.ob⟩

def vids : List D → List Nat
  | [] => []
  | .vec i :: r => i :: vids r
  | _ :: r => vids r
def pids : List D → List Nat
  | [] => []
  | .ptr i _ :: r => i :: pids r
  | _ :: r => pids r

/-- The objects that an operation looks at. -/
def rdA (obs : Nat → Option Ob) : AOp → List D → List Nat
  | .load true sz, [.ptr id off] => id :: (match obs id with | some (.cells cs) => vids ((cs.drop off).take sz) | _ => [])
  | .load .., [.vptr id ..] => [id]
  | .load .., xs => pids xs
  | .b2s, xs => vids xs
  | .mlook .., [.map id, _] => [id]
  | .len _, xs => vids xs
  | .iaddr _, xs => vids xs
  | .slice .., xs => vids xs
  | .build .., xs => vids xs
  | .bslice .., xs => vids xs
  | .call _, xs => vids xs
  | _, _ => []

def SOp.tmps : SOp → List Nat
  | .a _ g _ xs => tmpsX xs ++ tmpsG g
  | .st g _ x y => tmpsX [x, y] ++ tmpsG g
  | .app _ g _ _ _ x y => tmpsX [x, y] ++ tmpsG g
  | .cd _ g x xs => tmpsX (x :: xs) ++ tmpsG g

def SOp.gd : SOp → Option (Nat × Bool)
  | .a _ g _ _ => g
  | .st g _ _ _ => g
  | .app _ g _ _ _ _ _ => g
  | .cd _ g _ _ => g

def SOp.dst : SOp → Option Nat
  | .a d _ _ _ => d
  | .st _ _ _ _ => none
  | .app d _ _ _ _ _ _ => some d
  | .cd d _ _ _ => d

/-- The operation has this effect. -/
def HasB (P : Program) (b : Nat) (o : SOp) (s : St) (e : Eff) : Prop :=
  match o with
  | .a dst _ op xs => e.rd = rdA (lk s.ob) op (xs.map s.get) ∧ e.cd = none ∧ evl P (b + dst.getD 0) op (xs.map s.get) (lk s.ob) fun d nb => e.tm = dst.map (·, d) ∧ match nb with
      | none => e.ob = []
      | some o => dst.isSome = true ∧ e.ob = [(b + dst.getD 0, some o)]
  | .st _ sz x y => match stO sz (s.get x) (s.get y) (lk s.ob) with
    | some (a, b, id, o) => a < b ∧ e = ⟨[id], none, [(id, some o)], none⟩
    | none => False
  | .app dst _ fz sz et x y => match sliceOf (lk s.ob) (s.get y) with
    | some (ys, _) => (∀ q ∈ ys, q.length = sz) ∧ (match s.get x with
      | .nils => ys.length ≤ 1073741824 ∧ e = ⟨vids [s.get y], some (dst, .vec (b + dst)), [(b + dst, some (.arr fz sz et ys))], none⟩
      | .vec id => match lk s.ob id with
        | some (.arr fz' sz' e' es) => sz' = sz ∧ e' = et ∧ es.length + ys.length ≤ 1073741824 ∧ e = ⟨id :: vids [s.get y], some (dst, .vec (b + dst)), [(b + dst, some (.arr fz' sz et (es ++ ys))), (id, none)], none⟩
        | _ => False
      | _ => False)
    | none => False
  | .cd dst _ x xs => ∃ nm r ob' base, nm.Nodup ∧ (∀ i ∈ nm, (lk s.ob i).isSome) ∧ b + 4096 ≤ base ∧
      CallL P ((s.get x).ren (idx · nm)) ((xs.map fun x => dva (lk s.ob) (s.get x)).map (D.ren (idx · nm))) (handO s.ob (idx · nm) 0 nm) (fun r0 ob0 => r0 = r ∧ ob0 = ob') ∧
      e = ⟨nm ++ vids (xs.map s.get), dst.map (·, r.ren (bkN base nm)), (renO (fun j => match nm[j]? with | some i => i | none => base + j) (bkN base nm) ob').map (fun p => (p.1, some p.2)) ++ nm.map (·, none), some base⟩

def Has (P : Program) (b : Nat) (o : SOp) (s : St) (e : Eff) : Prop := gud o.gd s (HasB P b o s e) (e = ⟨[], o.dst.map (·, .nov), [], none⟩)

def Canon (P : Program) (b : Nat) : List SOp → St → List Eff → St → Prop
  | [], s, [], s' => s' = s
  | o :: r, s, e :: es, s' => Has P b o s e ∧ Canon P b r (s.app e) es s'
  | _, _, _, _ => False

def Eff.men (i : Nat) (e : Eff) : Bool := (match e.tm with | some (_, d) => D.men i d | none => false) || e.ob.any fun p => match p.2 with | some o => Ob.men i o | none => false
def otop : List (Nat × Option Ob) → Nat
  | [] => 0
  | (_, none) :: r => otop r
  | (i, some o) :: r => max (max (i + 1) (D.topL o.parts)) (otop r)
def Eff.top (e : Eff) : Nat := max (match e.tm with | some (_, d) => D.top d | none => 0) (otop e.ob)

/-- Two operations of which neither waits for the other: their temporaries. -/
def tmpApart (o1 o2 : SOp) : Bool :=
  (match o1.dst with | some t => !(o2.tmps.contains t) && (o2.dst != some t) | none => true) && (match o2.dst with | some t => !(o1.tmps.contains t) | none => true)

/-- Their objects. -/
def memApart (e1 e2 : Eff) : Bool :=
  match e1.ob, e2.ob with
  | [], [] => true
  | l1, l2 => (l1.all fun p => !(e2.rd.contains p.1) && !(l2.any fun q => q.1 == p.1)) && (l2.all fun p => !(e1.rd.contains p.1))

def statJ (pre : List Nat) (j : Nat) (o2 : SOp) : Nat → List SOp → Bool
  | i, o1 :: r => (befor pre i j || tmpApart o1 o2) && statJ pre j o2 (i + 1) r
  | _, [] => true

def statGo (pre : List Nat) (ops0 : List SOp) : Nat → List SOp → Bool
  | j, o2 :: r => statJ pre j o2 0 (ops0.take j) && statGo pre ops0 (j + 1) r
  | _, [] => true

def loudL : Nat → List Eff → List (Nat × Eff)
  | _, [] => []
  | i, e :: r => match e.ob, e.rd with
    | [], [] => loudL (i + 1) r
    | _, _ => (i, e) :: loudL (i + 1) r

def allI (p : Nat → Eff → Bool) : Nat → List Eff → Bool
  | i, e :: r => p i e && allI p (i + 1) r
  | _, [] => true

def namesGo (b : Nat) (pre : List Nat) (es0 : List Eff) : Nat → List SOp → List Eff → Bool
  | j, o :: r, e :: es => (match e.ob with
      | [] => true
      | _ => match o.dst with
        | some t => allI (fun i x => i == j || befor pre j i || !(x.men (b + t))) 0 es0
        | none => true) && (match e.cd with
      | none => true
      | some q => allI (fun i x => i == j || befor pre j i || decide (x.top ≤ q)) 0 es0) && namesGo b pre es0 (j + 1) r es
  | _, _, _ => true

def dchk (b : Nat) (pre : List Nat) (ops : List SOp) (es : List Eff) (s : St) : Bool :=
  statGo pre ops 0 ops && ((loudL 0 es).all fun x => (loudL 0 es).all fun y => decide (x.1 ≤ y.1) || befor pre y.1 x.1 || memApart y.2 x.2) && namesGo b pre es 0 ops es &&
  (es.all fun e => match e.cd with | some q => decide (s.top ≤ q) | none => true)

/-- What the short text is told beside the program. -/
structure Hints where
  bt : Nat → Bool
  fz : Nat → Bool
  nd : Nat → List Nat
  lv : Nat → List Nat

/-- A loop is known by the first region in it. -/
def codeKey : Code → Nat
  | .region id _ _ => id + 1
  | .seq a b => match codeKey a with | 0 => codeKey b | k => k
  | .cond _ a b => match codeKey a with | 0 => codeKey b | k => k
  | .block _ c => codeKey c
  | .loop c => codeKey c
  | .rangeFunc _ _ a b => match codeKey a with | 0 => codeKey b | k => k
  | .scope c => codeKey c
  | _ => 0

def compC (P : Program) (N : Nat) (hi : Hints) : Code → Option SC
  | .skip => some .skip
  | .ret => some .ret
  | .exit id => some (.exit id)
  | .region id ops draw => match ops.toList.mapM (fun o => compO P hi.bt (hi.fz (o.dst.getD 0)) ops o) with
    | some sops => if dstsOK N ops then (if draw then (if drawOK (hi.nd id) ops && decide (N ≤ 4096) then some (.drw (hi.nd id) sops) else none) else some (.reg sops)) else none
    | none => none
  | .seq a b => match compC P N hi a, compC P N hi b with
    | some a, some b => some (.seq a b)
    | _, _ => none
  | .cond x a b => match compX x, compC P N hi a, compC P N hi b with
    | some x, some a, some b => some (.cond x a b)
    | _, _, _ => none
  | .block id c => (compC P N hi c).map (.block id)
  | .loop c => (compC P N hi c).map (.loop (hi.lv (codeKey c)))
  | .rangeFunc g ps a b => match compX g, compC P N hi a, compC P N hi b with
    | some g, some a, some b => some (.rangeF N g ps a b)
    | _, _, _ => none
  | _ => none

/-- The code of which this is the short text. -/
def CodeIs (P : Program) (N : Nat) (sc : SC) (c : Code) : Prop := ∃ hi, compC P N hi c = some sc

class CodesOf (P : Program) : Prop where
  ci : ∀ N sc c, Codes.CI N sc c ↔ CodeIs P N sc c

/-- The record of a loop. -/
def recd (P : Program) (st : LoopState) (pend : Option Code) (N : Nat) (ps : Array Tmp) (a b : SC) (tm : Env) : Ob :=
  .gen (.loop st pend ps a b N (tm.map (·.1))) (tm.map fun p => (lk tm p.1).getD .undef)

def St.nx (s : St) (bs : Nat) : Nat := max bs s.top

def sw (P : Program) (bs : Nat) : SC → (Exit → St → Prop) → St → Prop
  | .skip, Q, s => Q .normal s
  | .ret, Q, s => Q .ret s
  | .exit id, Q, s => Q (.exit id) s
  | .reg ops, Q, s => stps P (s.nx bs) ops s (Q .normal)
  | .drw pre ops, Q, s => ∃ es s', Canon P (s.nx bs) ops s es s' ∧ dchk (s.nx bs) pre ops es s = true ∧ Q .normal s'
  | .seq a b, Q, s => sw P bs a (thenS (sw P bs b Q) Q) s
  | .cond x a b, Q, s => match s.get x with
    | .bool t => if t then sw P bs a Q s else sw P bs b Q s
    | _ => False
  | .block id c, Q, s => sw P bs c (inBlockS id Q) s
  | .loop _ c, Q, s => ∃ (ts : List Nat) (Inv : Nat → St → Prop), (∃ k, Inv k (s.canon bs ts)) ∧ ∀ k s', Inv k s' → sw P bs c (thenS (fun s'' => ∃ k', k' < k ∧ Inv k' (s''.canon bs ts)) Q) s'
  | .rangeF N g ps a b, Q, s => ∃ nm R, nm.Nodup ∧ (∀ i ∈ nm, (lk ((s.nx bs, recd P .ready none N ps a b s.tm) :: s.ob) i).isSome) ∧ (∃ f a c, s.get g = .func (.func f) a c ∧ pureF P f = true) ∧
      CallL P ((s.get g).ren (idx · nm)) [(D.yld (s.nx bs)).ren (idx · nm)] (handO ((s.nx bs, recd P .ready none N ps a b s.tm) :: s.ob) (idx · nm) 0 nm) R ∧
      ∀ r ob', R r ob' → ∃ st pend ps' asg body N' keys ds, lk (St.back ⟨s.tm, (s.nx bs, recd P .ready none N ps a b s.tm) :: s.ob⟩ (s.nx bs + 1) nm ob').ob (s.nx bs) = some (.gen (.loop st pend ps' asg body N' keys) ds) ∧ st ≠ .busy ∧ (match pend with
          | none => Q .normal ⟨s.tm, eraseId (s.nx bs) (St.back ⟨s.tm, (s.nx bs, recd P .ready none N ps a b s.tm) :: s.ob⟩ (s.nx bs + 1) nm ob').ob⟩
          | some .ret => Q .ret ⟨s.tm, eraseId (s.nx bs) (St.back ⟨s.tm, (s.nx bs, recd P .ready none N ps a b s.tm) :: s.ob⟩ (s.nx bs + 1) nm ob').ob⟩
          | some (.exit i) => Q (.exit i) ⟨s.tm, eraseId (s.nx bs) (St.back ⟨s.tm, (s.nx bs, recd P .ready none N ps a b s.tm) :: s.ob⟩ (s.nx bs + 1) nm ob').ob⟩
          | _ => False)

def mkd (b : Nat) : Deferred := { target := .collected b, args := #[] }

/-- Blocks for the rounds' deferred calls, which stay as they are. -/
def Cx.more (cx : Cx) (ms : List Nat) : Cx := { cx with kp := fun b => (cx.kp b).or (if b ∈ ms then some (.deferred (some [])) else none) }

theorem Cx.more_nil (cx : Cx) : cx.more [] = cx := by
  cases cx
  simp [Cx.more]

theorem Cx.more_more (cx : Cx) (a b : List Nat) : (cx.more a).more b = cx.more (b ++ a) := by
  cases cx
  simp only [Cx.more, Cx.mk.injEq, true_and]
  funext i
  rename_i kp; cases kp i <;> by_cases h1 : i ∈ b <;> by_cases h2 : i ∈ a <;> simp [h1, h2]

def PostM (cx : Cx) (ds : List Deferred) (Q : Exit → St → Prop) : Exit → Act → World → Prop :=
  fun e a w' => ∃ ms : List Nat, (ms.Nodup ∧ ∀ b ∈ ms, cx.kp b = none ∧ cx.w0.heap.size ≤ b) ∧ a.defers = ms.map mkd ++ ds ∧ ∃ s' φ' h', Q e s' ∧ Mod (cx.more ms) s' φ' h' a.tmps w'

theorem PostM.of {cx : Cx} {ds : List Deferred} {Q : Exit → St → Prop} {e : Exit} {s : St} {φ : Mem} {h : Nat → Value} {tmps : Array Value} {w : World} (hq : Q e s) (hm : Mod cx s φ h tmps w) : PostM cx ds Q e ⟨tmps, ds⟩ w :=
  ⟨[], ⟨List.nodup_nil, by simp⟩, rfl, s, φ, h, hq, by rw [Cx.more_nil]; exact hm⟩

/-- What was reached after more marks. -/
theorem PostM.after {cx : Cx} {ds : List Deferred} {ms : List Nat} (hnd : ms.Nodup ∧ ∀ b ∈ ms, cx.kp b = none ∧ cx.w0.heap.size ≤ b) {Q : Exit → St → Prop} {e : Exit} {a : Act} {w : World} (h : PostM (cx.more ms) (ms.map mkd ++ ds) Q e a w) : PostM cx ds Q e a w := by
  obtain ⟨ms', hnd', hdf, s', φ', h', hq, hm⟩ := h
  have hk : ∀ b ∈ ms', cx.kp b = none ∧ b ∉ ms := fun b hb => by
    have := (hnd'.2 b hb).1
    simp only [Cx.more] at this
    cases hq : cx.kp b with
    | some o => rw [hq] at this; cases this
    | none =>
      refine ⟨rfl, fun hmem => ?_⟩
      rw [hq, if_pos hmem] at this
      cases this
  refine ⟨ms' ++ ms, ⟨List.nodup_append.2 ⟨hnd'.1, hnd.1, fun a ha b hb e => (hk a ha).2 (e ▸ hb)⟩, fun b hb => (List.mem_append.1 hb).elim (fun h => ⟨(hk b h).1, (hnd'.2 b h).2⟩) (hnd.2 b)⟩, by rw [hdf, List.map_append, List.append_assoc], s', φ', h', hq, ?_⟩
  rw [Cx.more_more] at hm
  exact hm

section
variable {P : Program} {F : Fence} {n : Nat}

theorem steps_sound {cx : Cx} {ds : List Deferred} {bs : Nat} (hbs : cx.bs ≤ bs) (hgl : GlobC cx.φ0 cx.w0 cx.Z) (hF : Fence.Open F) {bt fz : Nat → Bool} {ops : Array Oper} {Q : Exit → St → Prop} (l : List Oper) : ∀ (sops : List SOp), l.mapM (fun o => compO P bt (fz (o.dst.getD 0)) ops o) = some sops →
    (∀ o ∈ l, ∀ d, o.dst = some d → d < cx.N) → ∀ (s : St) (φ : Mem) (h : Nat → Value) (tmps : Array Value) (w : World), Mod cx s φ h tmps w → stps P bs sops s (Q .normal) → wpListIn F n P ops (PostM cx ds Q) l ⟨tmps, ds⟩ w := by
  induction l with
  | nil =>
    intro sops hc _ s φ h tmps w hm hst
    simp at hc; subst hc
    exact PostM.of hst hm
  | cons o l ih =>
    intro sops hc hd s φ h tmps w hm hst
    simp only [List.mapM_cons, Option.bind_eq_bind, Option.bind_eq_some_iff, Option.pure_def, Option.some.injEq] at hc
    obtain ⟨so, h1, sops', h2, rfl⟩ := hc
    have hs := step_sound (ds := ds) (n := n) (Q := PostM cx ds Q) hF hbs hgl h1 (hd o (by simp)) hm hst
    have hnext : ∀ a w', NextM cx ds (fun s' => stps P bs sops' s' (Q .normal)) a w' → wpListIn F n P ops (PostM cx ds Q) l a w' := by
      rintro ⟨tm, df⟩ w' ⟨hdf, s', φ', h', hk, hm'⟩
      cases hdf
      exact ih sops' h2 (fun o ho => hd o (List.mem_cons_of_mem _ ho)) s' φ' h' tm w' hm' hk
    unfold wpListIn
    split at hs
    · rename_i hw
      rw [if_pos hw]
      exact Oper.wpIn_mono hnext hs
    · rename_i hw
      rw [if_neg hw]
      exact ⟨hs.1, hnext _ _ hs.2⟩

theorem dstsOK_spec {N : Nat} {ops : Array Oper} (hd : dstsOK N ops = true) : ∀ o ∈ ops.toList, ∀ d, o.dst = some d → d < N := by
  intro o ho d hdst
  have := List.all_eq_true.1 hd o ho
  rw [hdst] at this
  simpa using this

def DrawSound (P : Program) : Prop := ∀ {cx : Cx} {F : Fence} {n : Nat} {ds : List Deferred} (_ : Fence.Open F) {bt fz : Nat → Bool} {ops : Array Oper} {Q : Exit → St → Prop} {sops : List SOp} {pre : List Nat} {id bs : Nat} (_ : cx.bs ≤ bs) (_ : GlobC cx.φ0 cx.w0 cx.Z)
  (_ : ops.toList.mapM (fun o => compO P bt (fz (o.dst.getD 0)) ops o) = some sops) (_ : dstsOK cx.N ops = true) (_ : cx.N ≤ 4096) (_ : drawOK pre ops = true) (s : St) (φ : Mem) (h : Nat → Value) (tmps : Array Value) (w : World) (_ : s.top ≤ bs),
    Mod cx s φ h tmps w → ∀ (es : List Eff) (s' : St), Canon P bs sops s es s' → dchk bs pre sops es s = true → Q .normal s' → (Code.region id ops true).wpIn F n P (PostM cx ds Q) ⟨tmps, ds⟩ w

/-- The round's record around us lies in the heap. -/
def InRound (F : Fence) (cx : Cx) : Prop := ∀ l, F.round = some l → ∃ r, cx.kp l = some (.loop r)

theorem InRound.more {cx : Cx} (h : InRound F cx) (ms : List Nat) : InRound F (cx.more ms) := fun l hl => by
  obtain ⟨r, hr⟩ := h l hl
  exact ⟨r, by simp only [Cx.more, hr]; rfl⟩

end
end Go.Sx

namespace Go.Sx
open Go.RowKit
variable [Globs] [Codes]

theorem get?_lk_top {n : Nat} {tm : Env} (h : Env.top tm ≤ n) (t : Nat) : D.top ((lk tm t).getD .undef) ≤ n := by
  cases hl : lk tm t with
  | none => exact Nat.zero_le _
  | some d => exact Env.top_get h hl

theorem topL_le {n : Nat} : ∀ {cs : List D}, (∀ d ∈ cs, D.top d ≤ n) → D.topL cs ≤ n
  | [], _ => Nat.zero_le _
  | c :: cs, h => by
    simp only [D.topL]
    have h1 := h c (by simp)
    have h2 := topL_le (cs := cs) fun d hd => h d (List.mem_cons_of_mem _ hd)
    omega

theorem recd_top {P : Program} {st : LoopState} {pend : Option Code} {N : Nat} {ps : Array Tmp} {a b : SC} {tm : Env} {n : Nat} (h : Env.top tm ≤ n) : D.topL (recd P st pend N ps a b tm).parts ≤ n := by
  refine topL_le fun d hd => ?_
  simp only [recd, Ob.parts, List.mem_map] at hd
  obtain ⟨p, _, rfl⟩ := hd
  exact get?_lk_top h p.1

theorem env_mem {n : Nat} : ∀ {tm : Env}, Env.top tm ≤ n → ∀ {p}, p ∈ tm → D.top p.2 ≤ n
  | [], _, p, hp => by cases hp
  | (j, a) :: r, h, p, hp => by
    simp only [Env.top] at h
    rcases List.mem_cons.1 hp with rfl | hp
    · show D.top a ≤ n; omega
    · exact env_mem (tm := r) (by omega) hp

theorem constD_top (v : Value) (n : Nat) : D.top (constD v) ≤ n := by
  unfold constD
  split <;> exact Nat.zero_le _

section
variable {P : Program} {F : Fence} {n : Nat} {cx : Cx} {s : St} {φ φ' : Mem} {h : Nat → Value} {tmps : Array Value} {w w' : World}

theorem gen_kp {b : Nat} {id : Nat} (hm : Mod cx s φ h tmps w) (hi : (lk s.ob id).isSome) (hb : blk (h id) = some b) : ¬ (cx.kp b).isSome := fun hk => by
  obtain ⟨o, ho⟩ := Option.isSome_iff_exists.1 hk
  exact (hm.kept b o ho).2.2 id hi hb

/-- A new object. -/
theorem Mod.newOb (hm : Mod cx s φ h tmps w) {id : Nat} {o : Ob} {hv : Value} (hid : cx.bs ≤ id) (hct : ∀ t d, lk s.tm t = some d → D.men id d = false) (hco : ∀ t o, lk s.ob t = some o → Ob.men id o = false) (hone : hv.oneCell' = true) (hb : Below w.heap.size w w')
    (hob : ObR (w.heap.size ≤ ·) φ (updH h id hv) w' hv o) : Mod cx ⟨s.tm, (id, o) :: s.ob⟩ φ (updH h id hv) tmps w' := by
  have hmg : Mod cx s φ h tmps w' := hm.grown hb (fun _ _ _ h => h) (fun b o v hv => by rw [hb.cell (p := ⟨b, o, none⟩) (Sub.lt hm.mem hv)]; exact hm.mem b o v hv) (fun _ _ _ h h' => by rw [h] at h'; cases h')
  have hnew : ∀ b, blk hv = some b → w.heap.size ≤ b := fun b hbk => (hob.blk_lt hbk).2
  have hlt : ∀ i b, (lk s.ob i).isSome → blk (h i) = some b → b < w.heap.size := fun i b hi hbi => by
    obtain ⟨o, ho⟩ := Option.isSome_iff_exists.1 hi
    exact ((hm.ob i o ho).blk_lt hbi).1
  have hsome : ∀ i, i ≠ id → (lk ((id, o) :: s.ob) i).isSome → (lk s.ob i).isSome := fun i hne hi => by simpa only [lk, if_neg hne] using hi
  refine ⟨hmg.size, fun t d hd => (hmg.tm t d hd).upd id hv (hct _ _ hd), hmg.mem, hmg.ext, hmg.new, fun i o' ho' => ?_, fun i j b hi hj hbi hbj => ?_, hmg.os, hmg.tape, hmg.output, hmg.grow, fun i => ?_, hmg.frame, fun i hi => ?_, fun b o' hk => ?_⟩
  · simp only [lk] at ho'
    split at ho'
    · rename_i hi
      cases ho'
      subst hi
      rw [upd_same]
      exact hob.keep (fun b hb => Or.inl (Nat.le_trans hm.grow hb)) (fun _ _ => rfl) (fun _ _ _ h => h) (fun _ _ _ => rfl) (fun _ _ _ r => r)
    · rename_i hi
      rw [upd_other h hv hi]
      refine (hmg.ob i o' ho').keep (fun _ hb => hb) (fun _ _ => rfl) (fun _ _ _ h => h) (fun _ _ _ => rfl) (fun v d hdm r => ?_)
      have hmen := hco _ _ ho'
      obtain ⟨j, hj⟩ := List.mem_iff_getElem?.1 hdm
      exact r.upd id hv (menL_get hmen j d hj)
  · by_cases h1 : i = id <;> by_cases h2 : j = id
    · rw [h1, h2]
    · subst h1
      rw [upd_same] at hbi
      rw [upd_other h hv h2] at hbj
      exact absurd (hlt j b (hsome j h2 hj) hbj) (by have := hnew b hbi; omega)
    · subst h2
      rw [upd_same] at hbj
      rw [upd_other h hv h1] at hbi
      exact absurd (hlt i b (hsome i h1 hi) hbi) (by have := hnew b hbj; omega)
    · rw [upd_other h hv h1] at hbi
      rw [upd_other h hv h2] at hbj
      exact hm.sep i j b (hsome i h1 hi) (hsome j h2 hj) hbi hbj
  · simp only [updH]
    split
    · exact hone
    · exact hmg.one i
  · rw [upd_other h hv (by omega)]; exact hmg.hfix i hi
  · obtain ⟨h1, h2, h3⟩ := hmg.kept b o' hk
    refine ⟨h1, h2, fun i hi => ?_⟩
    by_cases hne : i = id
    · subst hne
      rw [upd_same]
      intro he
      have := hnew b he
      have := (Array.getElem?_eq_some_iff.1 (hm.kept b o' hk).1).1
      omega
    · rw [upd_other h hv hne]
      exact h3 i (hsome i hne hi)

/-- A mark. -/
theorem Mod.mark (hm : Mod cx s φ h tmps w) : Mod (cx.more [w.heap.size]) s φ h tmps (w.alloc (.deferred (some []))) := by
  have hb : Below w.heap.size w (w.alloc (.deferred (some []))) := (Below.refl _ w).alloc (Nat.le_refl _) _
  have hmg : Mod cx s φ h tmps (w.alloc (.deferred (some []))) := hm.grown hb (fun _ _ _ h => h) (fun b o v hv => by rw [hb.cell (p := ⟨b, o, none⟩) (Sub.lt hm.mem hv)]; exact hm.mem b o v hv) (fun _ _ _ h h' => by rw [h] at h'; cases h')
  refine ⟨hmg.size, hmg.tm, hmg.mem, hmg.ext, hmg.new, hmg.ob, hmg.sep, hmg.os, hmg.tape, hmg.output, hmg.grow, hmg.one, hmg.frame, hmg.hfix, fun b o hk => ?_⟩
  simp only [Cx.more] at hk
  cases hq : cx.kp b with
  | some o' => rw [hq] at hk; cases hk; exact hmg.kept b o hq
  | none =>
    rw [hq] at hk
    simp only [List.mem_singleton, Option.none_or] at hk
    split at hk
    · rename_i hbs
      cases hk
      subst hbs
      refine ⟨World.alloc_heap_new w _, fun off => ?_, fun i hi he => ?_⟩
      · cases hq : φ w.heap.size off with
        | none => rfl
        | some v => exact absurd (Sub.lt hm.mem hq) (by omega)
      · obtain ⟨o, ho⟩ := Option.isSome_iff_exists.1 hi
        have := ((hm.ob i o ho).blk_lt he).1
        omega
    · cases hk

end
end Go.Sx

namespace Go.Sx
open Go.RowKit
variable [Globs] [Codes]

section
variable {P : Program} {F : Fence} {n : Nat}

theorem func_inv {φ : Mem} {h : Nat → Value} {v : Value} {f : Fn} {a c : List D} (r : RV φ h v (.func f a c)) : ∃ va vc : Array Value, v = .func f va vc ∧ va.size = a.length ∧ vc.size = c.length ∧
    (∀ j d, a[j]? = some d → RV φ h (va.getD j Go.undef) d) ∧ ∀ j d, c[j]? = some d → RV φ h (vc.getD j Go.undef) d := by
  cases r with
  | pure r => cases r
  | func _ vf vc _ _ hf hc h1 h2 => exact ⟨vf, vc, rfl, hf, hc, h1, h2⟩

theorem run_callv_func {f : FuncId} {va vc vs : Array Value} {w : World} (hp : pureF P f = true) : (callv (.func (.func f) va vc) vs).run P w = .ok (.enter f (va ++ vs ++ vc)) w := by
  obtain ⟨fn, hf, hb, hn⟩ := pureF_spec hp
  simp only [callv, Deferred.ofValue, invoke, Sem.run_bind, Sem.run_pure, Result.andThen_ok, callFunc, run_program, hf, hn, hb, Bool.false_eq_true, if_false]

theorem rangeF_sound [CodesOf P] (hF : Fence.Open F) {cx : Cx} (hgl : GlobC cx.φ0 cx.w0 cx.Z) (hro : InRound F cx) {ds : List Deferred} {ps : Array Tmp} {hi : Hints} {g : Operand} {ca cb : Code} {g' : X} {a b : SC} (hg : compX g = some g') (ha : compC P cx.N hi ca = some a) (hb : compC P cx.N hi cb = some b)
    {Q : Exit → St → Prop} {s : St} {φ : Mem} {h : Nat → Value} {tmps : Array Value} {w : World} (hm : Mod cx s φ h tmps w) (hs : sw P cx.bs (.rangeF cx.N g' ps a b) Q s) :
    (Code.rangeFunc g ps ca cb).wpIn F n P (PostM cx ds Q) ⟨tmps, ds⟩ w := by
  obtain ⟨nm, R, hnd, hin, ⟨f, fa, fc, hgf, hpf⟩, hcall, hK⟩ := hs
  generalize hrid : s.nx cx.bs = rid at *
  have h3 : cx.bs ≤ rid := by rw [← hrid]; exact Nat.le_max_left _ _
  have htop : s.top ≤ rid := by rw [← hrid]; exact Nat.le_max_right _ _
  have h4 : Env.top s.tm ≤ rid := Nat.le_trans (Nat.le_max_left _ _) htop
  have h6 : Obs.top s.ob ≤ rid := Nat.le_trans (Nat.le_max_right _ _) htop
  refine wpIn_rangeFunc fun fn hfn => ?_
  -- the record is laid
  have lay : ∃ (l : Nat) (ms : List Nat) (w1 : World) (r0 : Loop), (ms.Nodup ∧ ∀ b ∈ ms, cx.kp b = none ∧ cx.w0.heap.size ≤ b) ∧ (Instr.enterLoop fn tmps ps ca cb F.round).run P w = .ok (l, ms.map mkd) w1 ∧ Mod (cx.more ms) s φ h tmps w1 ∧
      Mod (cx.more ms) ⟨s.tm, (rid, recd P .ready none cx.N ps a b s.tm) :: s.ob⟩ φ (updH h rid (.pointer (some ⟨l, 0, none⟩))) tmps w1 := by
    have hct : ∀ t d, lk s.tm t = some d → D.men rid d = false := fun t d hd => D.top_men rid d (Env.top_get h4 hd)
    have hco : ∀ t o, lk s.ob t = some o → Ob.men rid o = false := fun t o ho => (Obs.top_men h6 ho).2
    have newrec : ∀ {cx2 : Cx} {w2 : World} {r0 : Loop}, cx2.bs = cx.bs → Mod cx2 s φ h tmps w2 → r0.state = .ready → r0.pending = none → r0.params = ps → r0.assign = ca → r0.body = cb → r0.tmps = tmps →
        Mod cx2 ⟨s.tm, (rid, recd P .ready none cx.N ps a b s.tm) :: s.ob⟩ φ (updH h rid (.pointer (some ⟨w2.heap.size, 0, none⟩))) tmps (w2.alloc (.loop r0)) := fun {cx2 w2 r0} hbs hm2 q1 q2 q3 q4 q5 q6 => by
      refine hm2.newOb (by rw [hbs]; exact h3) hct hco rfl ((Below.refl _ w2).alloc (Nat.le_refl _) _) ?_
      refine ⟨w2.heap.size, (s.tm.map (·.1)).map fun t => tmps.getD t Go.undef, .loop r0, rfl, Nat.le_refl _, World.alloc_heap_new w2 _, ⟨⟨_, rfl⟩, r0, rfl, q1, q2, q3, ?_, ?_, ?_, by rw [q6]⟩, by simp, fun j d hd => ?_, fun off => ?_⟩
      · rw [q4]; exact (CodesOf.ci (P := P) _ _ _).2 ⟨hi, ha⟩
      · rw [q5]; exact (CodesOf.ci (P := P) _ _ _).2 ⟨hi, hb⟩
      · rw [q6]; exact hm.size
      · simp only [List.getElem?_map] at hd
        cases hq : s.tm[j]? with
        | none => rw [hq] at hd; cases hd
        | some p =>
          rw [hq] at hd
          simp only [Option.map_some, Option.some.injEq] at hd
          subst hd
          simp only [List.map_map, List.getD, List.getElem?_map, hq, Option.map_some, Option.getD_some, Function.comp]
          have : RV φ h (tmps.getD p.1 Go.undef) ((lk s.tm p.1).getD .undef) := by
            cases hl : lk s.tm p.1 with
            | none => exact .undef _
            | some d => exact hm.tm p.1 d hl
          exact this.under (get?_lk_top h4 p.1) fun i hi => upd_other _ _ (by omega)
      · cases hq : φ w2.heap.size off with
        | none => rfl
        | some v => exact absurd (Sub.lt hm2.mem hq) (by omega)
    cases hr : F.round with
    | none =>
      have hmk := hm.mark
      refine ⟨w.heap.size + 1, [w.heap.size], _, { state := .ready, pending := none, fn, tmps, params := ps, assign := ca, body := cb, defers := w.heap.size }, ⟨by simp, ?_⟩, run_enterLoop_outer _ _ _ _ _, ?_, ?_⟩
      · intro b hb
        simp only [List.mem_singleton] at hb
        subst hb
        refine ⟨?_, hm.grow⟩
        cases hq : cx.kp w.heap.size with
        | none => rfl
        | some o => exact absurd (Array.getElem?_eq_some_iff.1 (hm.kept _ o hq).1).1 (by omega)
      · have hb := (Below.refl _ (w.alloc (.deferred (some [])))).alloc (Nat.le_refl _) (.loop { state := .ready, pending := none, fn, tmps, params := ps, assign := ca, body := cb, defers := w.heap.size })
        exact hmk.grown hb (fun _ _ _ h => h) (fun b o v hv => by rw [hb.cell (p := ⟨b, o, none⟩) (Sub.lt hmk.mem hv)]; exact hmk.mem b o v hv) (fun _ _ _ h h' => by rw [h] at h'; cases h')
      · have := newrec (cx2 := cx.more [w.heap.size]) (r0 := { state := .ready, pending := none, fn, tmps, params := ps, assign := ca, body := cb, defers := w.heap.size }) rfl hmk rfl rfl rfl rfl rfl rfl
        rw [World.size_alloc] at this
        exact this
    | some l0 =>
      obtain ⟨r, hkr⟩ := hro l0 hr
      have hl0 := (hm.kept l0 _ hkr).1
      refine ⟨w.heap.size, [], w.alloc (.loop { state := .ready, pending := none, fn, tmps, params := ps, assign := ca, body := cb, defers := r.defers }), { state := .ready, pending := none, fn, tmps, params := ps, assign := ca, body := cb, defers := r.defers }, ⟨by simp, by simp⟩, ?_, ?_, ?_⟩
      · unfold Instr.enterLoop
        simp only [Sem.run_bind, run_getLoop hl0, Result.andThen, Sem.run_pure, run_newObj_alloc, List.map_nil]
      · rw [Cx.more_nil]
        have hb := (Below.refl _ w).alloc (Nat.le_refl _) (.loop { state := .ready, pending := none, fn, tmps, params := ps, assign := ca, body := cb, defers := r.defers })
        exact hm.grown hb (fun _ _ _ h => h) (fun b o v hv => by rw [hb.cell (p := ⟨b, o, none⟩) (Sub.lt hm.mem hv)]; exact hm.mem b o v hv) (fun _ _ _ h h' => by rw [h] at h'; cases h')
      · rw [Cx.more_nil]
        exact newrec rfl hm rfl rfl rfl rfl rfl rfl
  obtain ⟨l, ms, w1, r0, hnd', henter, hm0, hm1⟩ := lay
  -- the value that is called
  have hgl' : GlobC (cx.more ms).φ0 (cx.more ms).w0 (cx.more ms).Z := hgl
  have hgv := hm0.get hgl' (ds := ds) hg
  rw [hgf] at hgv
  obtain ⟨va, vc, hve, _, _, _, _⟩ := func_inv hgv
  have hlink := run_callv_func (P := P) (va := va) (vc := vc) (vs := #[.func (.yield l) #[] #[]]) (w := w1) hpf
  have htop1 : St.top ⟨s.tm, (rid, recd P .ready none cx.N ps a b s.tm) :: s.ob⟩ ≤ rid + 1 := by
    simp only [St.top, Obs.top]
    have := recd_top (P := P) (st := .ready) (pend := none) (N := cx.N) (ps := ps) (a := a) (b := b) h4
    omega
  have hgv2 : RV φ (updH h rid (.pointer (some ⟨l, 0, none⟩))) (Act.eval ⟨tmps, ds⟩ g) (s.get g') := by
    have := hm0.get hgl' (ds := ds) hg
    refine this.under (n := rid) ?_ (fun i hi => upd_other _ _ (by omega))
    cases g' with
    | t t => exact get?_lk_top h4 t
    | c d =>
      cases g with
      | tmp t => cases hg
      | const v => cases hg; exact constD_top v rid
      | func f => cases hg; simp [St.get, D.top, D.topL]
      | global g =>
        cases hg
        simp only [St.get, glx]
        cases hq : Globs.G g <;> exact Nat.zero_le _
  have hyl : RV φ (updH h rid (.pointer (some ⟨l, 0, none⟩))) (.func (.yield l) #[] #[]) (.yld rid) := .yld rid l (upd_same _ _ _)
  have hout := hcall F hF (n - 1) φ _ w1 (Act.eval ⟨tmps, ds⟩ g) #[.func (.yield l) #[] #[]] (hm1.loc (hm1.glob hgl') hnd) (ren_hand hgv2) ⟨ren_hand hyl, trivial⟩
  rw [hve] at hout
  rw [hlink] at hout
  refine ⟨l, ms.map mkd, w1, { target := .fn (.func f) vc, args := va ++ #[.func (.yield l) #[] #[]] }, w1, f, va ++ #[.func (.yield l) #[] #[]] ++ vc, w1, henter, ?_, ?_, ?_, ?_, ?_⟩
  · have e : (rangeCall g l).args.map (Act.eval ⟨tmps, ds⟩) = #[.func (.yield l) #[] #[]] := by simp [rangeCall, Act.eval]
    simp only [resolve]
    rw [e]
    simp only [hve, Deferred.ofValue]
    exact Sem.run_pure _ _ _
  · intro f' _; exact hF.fn f'
  · obtain ⟨fn', hf', hb', hn'⟩ := pureF_spec hpf
    simp only [invoke, Sem.run_bind, Sem.run_pure, Result.andThen_ok, callFunc, run_program, hf', hn', hb', Bool.false_eq_true, if_false]
  · intro hd; rw [hF.depth] at hd; cases hd
  · refine CallsIn.mono hout ?_
    rintro e w3 ⟨v, r, ob', φ', h', rfl, hR, hrv, haft⟩
    obtain ⟨st, pend, ps', asg, body, N', keys, dd, hl', hst, hQ⟩ := hK r ob' hR
    obtain ⟨q6, _⟩ := hm1.back (base := rid + 1) (by show cx.bs ≤ rid + 1; omega) htop1 hnd hin haft
    have hob := q6.ob rid _ hl'
    have hhr : hbak (updH h rid (.pointer (some ⟨l, 0, none⟩))) h' (rid + 1) rid = .pointer (some ⟨l, 0, none⟩) := by
      simp only [hbak]; rw [if_neg (by omega)]; exact upd_same _ _ _
    rw [hhr] at hob
    obtain ⟨b0, vals, o, hb0, hown, hheap, hgis, _, _, hnone⟩ := hob
    cases hb0
    obtain ⟨_, r3, rfl, hst3, hpe3, _⟩ := hgis
    have hrunl := run_endLoop (P := P) hheap (by rw [hst3]; exact hst)
    refine ⟨pend, _, by rw [← hpe3]; exact hrunl, ?_⟩
    generalize hS : St.back ⟨s.tm, (rid, recd P .ready none cx.N ps a b s.tm) :: s.ob⟩ (rid + 1) nm ob' = S at *
    have hStm : S.tm = s.tm := by rw [← hS]; rfl
    -- the record is let go
    have hsub : ∀ i o, lk (eraseId rid S.ob) i = some o → lk S.ob i = some o ∧ i ≠ rid := fun i o ho => by
      rw [look_erase] at ho
      split at ho
      · cases ho
      · rename_i hne; exact ⟨ho, hne⟩
    have hmw : Mod (cx.more ms) ⟨s.tm, eraseId rid S.ob⟩ φ' (hbak (updH h rid (.pointer (some ⟨l, 0, none⟩))) h' (rid + 1)) tmps w3 := q6.weaken (fun _ _ h => by rw [hStm]; exact h) fun i o hi => (hsub i o hi).1
    have hlt := (Array.getElem?_eq_some_iff.1 hheap).1
    have hmf : Mod (cx.more ms) ⟨s.tm, eraseId rid S.ob⟩ φ' (hbak (updH h rid (.pointer (some ⟨l, 0, none⟩))) h' (rid + 1)) tmps (w3.putObj l (.loop { r3 with state := .exhausted })) := by
      refine hmw.world hown (fun i hi he => ?_) (gen_kp q6 (by rw [hl']; rfl) (by rw [hhr]; rfl)) rfl rfl rfl World.putObj_size (fun k hk => World.putObj_heap_other hk) (fun b o v hv => ?_)
      · obtain ⟨o, ho⟩ := Option.isSome_iff_exists.1 hi
        obtain ⟨h1, h2⟩ := hsub i o ho
        exact h2 (q6.sep i rid l (by rw [h1]; rfl) (by rw [hl']; rfl) he (by rw [hhr]; rfl))
      · have hbl : b ≠ l := fun e => by rw [e, hnone] at hv; cases hv
        rw [World.cell?_of_block (w := w3) (a := ⟨b, o, none⟩) (World.putObj_heap_other hbl)]
        exact hmw.mem b o v hv
    have fin : ∀ e, Q e ⟨s.tm, eraseId rid S.ob⟩ → PostM cx ds Q e ⟨tmps, ms.map mkd ++ ds⟩ (w3.putObj l (.loop { r3 with state := .exhausted })) := fun e hq => ⟨ms, hnd', rfl, _, φ', (hbak (updH h rid (.pointer (some ⟨l, 0, none⟩))) h' (rid + 1)), hq, hmf⟩
    split at hQ
    · exact fin .normal hQ
    · exact wpIn_ret (fin .ret hQ)
    · exact wpIn_exit (fin (.exit _) hQ)
    · exact hQ.elim

end
end Go.Sx

namespace Go.Sx
open Go.RowKit
variable [Globs] [Codes]

section
variable {P : Program} {F : Fence} {n : Nat}

theorem sw_sound [CodesOf P] (hdraw : DrawSound P) (hF : Fence.Open F) {hi : Hints} {N bs : Nat} (c : Code) : ∀ (sc : SC), compC P N hi c = some sc → ∀ (cx : Cx) (ds : List Deferred), cx.N = N → cx.bs = bs → GlobC cx.φ0 cx.w0 cx.Z → InRound F cx →
    ∀ (Q : Exit → St → Prop) (s : St) (φ : Mem) (h : Nat → Value) (tmps : Array Value) (w : World),
    Mod cx s φ h tmps w → sw P bs sc Q s → c.wpIn F n P (PostM cx ds Q) ⟨tmps, ds⟩ w := by
  induction c with
  | skip =>
    intro sc hc cx ds hN hbs hgl hro Q s φ h tmps w hm hs
    cases hc
    exact wpIn_skip (PostM.of hs hm)
  | ret =>
    intro sc hc cx ds hN hbs hgl hro Q s φ h tmps w hm hs
    cases hc
    exact wpIn_ret (PostM.of hs hm)
  | exit id =>
    intro sc hc cx ds hN hbs hgl hro Q s φ h tmps w hm hs
    cases hc
    exact wpIn_exit (PostM.of hs hm)
  | region id ops draw =>
    intro sc hc cx ds hN hbs hgl hro Q s φ h tmps w hm hs
    subst hN
    subst hbs
    simp only [compC] at hc
    split at hc
    · rename_i sops hl
      split at hc
      · rename_i hd
        cases draw with
        | true =>
          simp only [if_true] at hc
          split at hc
          · rename_i hok
            cases hc
            simp only [Bool.and_eq_true, decide_eq_true_eq] at hok
            obtain ⟨es, s', q1, q2, q3⟩ := hs
            exact hdraw hF (Nat.le_max_left _ _) hgl hl hd hok.2 hok.1 s φ h tmps w (Nat.le_max_right _ _) hm es s' q1 q2 q3
          · cases hc
        | false =>
          simp only [Bool.false_eq_true, if_false] at hc
          cases hc
          exact wpIn_region_list (steps_sound (Nat.le_max_left _ _) hgl hF ops.toList sops hl (dstsOK_spec hd) s φ h tmps w hm hs)
      · cases hc
    · cases hc
  | seq a b iha ihb =>
    intro sc hc cx ds hN hbs hgl hro Q s φ h tmps w hm hs
    simp only [compC] at hc
    split at hc
    · rename_i sa sb ha hb
      cases hc
      refine wpIn_seq (wpIn_mono (iha sa ha cx ds hN hbs hgl hro _ s φ h tmps w hm hs) ?_)
      rintro e ⟨tm, df⟩ w' ⟨ms, hnd, hdf, s', φ', h', hq, hm'⟩
      simp only at hdf
      subst hdf
      cases e <;> first | exact ⟨ms, hnd, rfl, s', φ', h', hq, hm'⟩ | exact wpIn_mono (ihb sb hb (cx.more ms) (ms.map mkd ++ ds) hN hbs hgl (hro.more ms) Q s' φ' h' tm w' hm' hq) (fun _ _ _ h => h.after hnd)
    · cases hc
  | cond x a b iha ihb =>
    intro sc hc cx ds hN hbs hgl hro Q s φ h tmps w hm hs
    simp only [compC] at hc
    split at hc
    · rename_i x' sa sb hx ha hb
      cases hc
      simp only [sw] at hs
      have hv := hm.get hgl (ds := ds) hx
      split at hs
      · rename_i t hxt
        rw [hxt] at hv
        refine wpIn_cond hv.bool_inv ?_
        cases t
        · exact ihb sb hb cx ds hN hbs hgl hro Q s φ h tmps w hm (by simpa using hs)
        · exact iha sa ha cx ds hN hbs hgl hro Q s φ h tmps w hm (by simpa using hs)
      · exact hs.elim
    · cases hc
  | block id c ih =>
    intro sc hc cx ds hN hbs hgl hro Q s φ h tmps w hm hs
    simp only [compC] at hc
    cases hc' : compC P N hi c with
    | none => rw [hc'] at hc; cases hc
    | some sb =>
      rw [hc'] at hc; cases hc
      refine wpIn_block (wpIn_mono (ih sb hc' cx ds hN hbs hgl hro _ s φ h tmps w hm hs) ?_)
      rintro e ⟨tm, df⟩ w' ⟨ms, hnd, hdf, s', φ', h', hq, hm'⟩
      cases e <;> try exact ⟨ms, hnd, hdf, s', φ', h', hq, hm'⟩
      rename_i i
      simp only [inBlockS] at hq
      simp only [Exit.inBlock]
      split at hq
      · rename_i hi; rw [if_pos hi]; exact ⟨ms, hnd, hdf, s', φ', h', hq, hm'⟩
      · rename_i hi; rw [if_neg hi]; exact ⟨ms, hnd, hdf, s', φ', h', hq, hm'⟩
  | loop c ih =>
    intro sc hc cx ds hN hbs hgl hro Q s φ h tmps w hm hs
    simp only [compC] at hc
    cases hc' : compC P N hi c with
    | none => rw [hc'] at hc; cases hc
    | some sb =>
      rw [hc'] at hc; cases hc
      obtain ⟨ts, Inv, ⟨k0, hk0⟩, hround⟩ := hs
      subst hN
      subst hbs
      let I : Nat → Act → World → Prop := fun k a w' => PostM cx ds (fun _ s' => Inv k s') .normal a w'
      have hmin : ∀ a w', (∃ k, I k a w') → ∃ k, I k a w' ∧ ∀ j, I j a w' → k ≤ j := fun a w' ⟨k, hk⟩ => by
        induction k using Nat.strongRecOn with
        | _ k ihk =>
          by_cases hlt : ∃ j, j < k ∧ I j a w'
          · obtain ⟨j, hj, hij⟩ := hlt
            exact ihk j hj hij
          · exact ⟨k, hk, fun j hj => Nat.le_of_not_lt fun hjk => hlt ⟨j, hjk, hj⟩⟩
      let μ : Act → World → Nat := fun a w' => Classical.epsilon fun k => I k a w' ∧ ∀ j, I j a w' → k ≤ j
      have hμ : ∀ a w', (∃ k, I k a w') → I (μ a w') a w' ∧ ∀ j, I j a w' → μ a w' ≤ j := fun a w' hex => Classical.epsilon_spec (hmin a w' hex)
      obtain ⟨hk, _, hmk⟩ := hm.canS (tm := kept s.tm ts) (fun _ _ h => kept_lk h) (nw := newN cx.bs s.ob (kept s.tm ts))
      refine wpIn_loop (fun a w' => ∃ k, I k a w') μ ⟨k0, PostM.of (Q := fun _ s' => Inv k0 s') hk0 hmk⟩ ?_
      intro a w' hex
      obtain ⟨⟨ms, hnd, hdf, s', φ', h', hinv, hm'⟩, _⟩ := hμ a w' hex
      generalize hkk : μ a w' = kk at hinv
      obtain ⟨tm, df⟩ := a
      simp only at hdf
      subst hdf
      refine wpIn_mono (ih sb hc' (cx.more ms) (ms.map mkd ++ ds) rfl rfl hgl (hro.more ms) _ s' φ' h' tm w' hm' (hround kk s' hinv)) ?_
      intro e a2 w2 hp
      obtain ⟨ms2, hnd2, hdf2, s2, φ2, h2, hq, hm2⟩ := hp.after hnd
      cases e <;> try exact ⟨ms2, hnd2, hdf2, s2, φ2, h2, hq, hm2⟩
      obtain ⟨k', hlt, hinv'⟩ := hq
      obtain ⟨hk2, _, hmk2⟩ := hm2.canS (tm := kept s2.tm ts) (fun _ _ h => kept_lk h) (nw := newN cx.bs s2.ob (kept s2.tm ts))
      have hI : I k' a2 w2 := ⟨ms2, hnd2, hdf2, s2.canon cx.bs ts, φ2, hk2, hinv', hmk2⟩
      exact ⟨⟨k', hI⟩, by have := (hμ a2 w2 ⟨k', hI⟩).2 k' hI; omega⟩
  | rangeFunc g ps ca cb iha ihb =>
    intro sc hc cx ds hN hbs hgl hro Q s φ h tmps w hm hs
    subst hN
    subst hbs
    simp only [compC] at hc
    split at hc
    · rename_i g' a b hg ha hb
      cases hc
      exact rangeF_sound hF hgl hro hg ha hb hm hs
    · cases hc
  | scope => intro sc hc; cases hc
  | label => intro sc hc; cases hc
  | goto => intro sc hc; cases hc
  | refuse => intro sc hc; cases hc

end
end Go.Sx

namespace Go.Sx
open Go.RowKit
variable [Globs] [Codes]

inductive SR where
  | t (n : Nat)
  | cell (n : Nat) (agg : Bool) (sz : Nat)
  deriving Inhabited

def resD (s : St) : SR → Option D
  | .t n => lk s.tm n
  | .cell n agg sz => match lk s.tm n with
    | some (.ptr id off) => match lk s.ob id with
      | some (.cells cs) => if agg then (if off + sz ≤ cs.length then some (.agg ((cs.drop off).take sz)) else none) else cs[off]?
      | _ => none
    | _ => none

def packD : List D → D
  | [d] => d
  | ds => .tuple ds

def compRes (P : Program) : ResultVar → Option SR
  | .tmp t => some (.t t)
  | .cell a t => match aggB P t, szT P t with
    | some ag, some sz => some (.cell a ag sz)
    | _, _ => none

def envOf : Nat → List D → Env
  | _, [] => []
  | i, d :: ds => (i, d) :: envOf (i + 1) ds

theorem look_env : ∀ (ds : List D) (i t : Nat) (d : D), lk (envOf i ds) t = some d → i ≤ t ∧ ds[t - i]? = some d
  | [], _, _, _, h => by simp [envOf, lk] at h
  | x :: ds, i, t, d, h => by
    simp only [envOf, lk] at h
    split at h
    · rename_i ht
      cases h; subst ht
      simp
    · have := look_env ds (i + 1) t d h
      refine ⟨by omega, ?_⟩
      rw [show t - i = (t - (i + 1)) + 1 by omega]
      simpa using this.2

theorem menL_of_clo : ∀ {ds : List D}, D.cloL ds = true → ∀ d ∈ ds, D.clo d = true
  | [], _, _, h => by simp at h
  | x :: ds, hc, d, h => by
    simp only [D.cloL, Bool.and_eq_true] at hc
    rcases List.mem_cons.1 h with rfl | h
    · exact hc.1
    · exact menL_of_clo hc.2 d h

/-- What has no objects in it does not hang on them. -/
theorem RV.closed {φ : Mem} {h : Nat → Value} {v : Value} {d : D} (r : RV φ h v d) : D.clo d = true → ∀ h', RV φ h' v d := by
  induction r with
  | undef v => exact fun _ h' => .undef v
  | pure hr => exact fun _ h' => .pure hr
  | agg vs cs hs _ ih => exact fun hc h' => .agg vs cs hs fun j d hd => ih j d hd (menL_of_clo (by simpa [D.clo] using hc) d (List.mem_of_getElem? hd)) h'
  | tuple vs cs hs _ ih => exact fun hc h' => .tuple vs cs hs fun j d hd => ih j d hd (menL_of_clo (by simpa [D.clo] using hc) d (List.mem_of_getElem? hd)) h'
  | ptr => intro hc; simp [D.clo] at hc
  | fptr b off cs vals hm hr => exact fun _ h' => .fptr b off cs vals hm hr
  | vec => intro hc; simp [D.clo] at hc
  | vptr => intro hc; simp [D.clo] at hc
  | map => intro hc; simp [D.clo] at hc
  | yld => intro hc; simp [D.clo] at hc
  | func f vf vc df dc hf hcc _ _ ih1 ih2 =>
    intro hc h'
    simp only [D.clo, Bool.and_eq_true] at hc
    exact .func f vf vc df dc hf hcc (fun j d hd => ih1 j d hd (menL_of_clo hc.1 d (List.mem_of_getElem? hd)) h') (fun j d hd => ih2 j d hd (menL_of_clo hc.2 d (List.mem_of_getElem? hd)) h')

section
variable {P : Program} {cx : Cx} {s : St} {φ : Mem} {h : Nat → Value} {tmps : Array Value} {w : World}

def resF (tmps : Array Value) : ResultVar → Sem Value
  | .tmp t => pure (tmps.getD t Go.undef)
  | .cell a t => do loadVar t (← asAddr (tmps.getD a Go.undef))

theorem results_eq (fn : Func) (tmps : Array Value) : results fn tmps = (do let vs ← fn.results.mapM (resF tmps); pure (if h : vs.size = 1 then vs[0] else .tuple vs)) := by
  unfold results
  congr 1

theorem run_res (hm : Mod cx s φ h tmps w) {rv : ResultVar} {sr : SR} {d : D} (hc : compRes P rv = some sr) (hr : resD s sr = some d) :
    ∃ v, (resF tmps rv).run P w = .ok v w ∧ RV φ h v d := by
  cases rv with
  | tmp t =>
    cases hc
    simp only [resD] at hr
    cases hl : lk s.tm t with
    | none => rw [hl] at hr; cases hr
    | some d' => rw [hl] at hr; simp at hr; subst hr; exact ⟨_, rfl, hm.tm t d' hl⟩
  | cell a t =>
    simp only [compRes] at hc
    split at hc
    · rename_i ag sz ha hs
      cases hc
      simp only [resD] at hr
      split at hr
      · rename_i id off hl
        obtain ⟨b, hb, hv⟩ := (hm.tm a _ hl).ptr_inv
        split at hr
        · rename_i cs hob
          obtain ⟨b', vals, e, hb', _, hheap, hsize, hrv, _⟩ := hm.ob id _ hob
          rw [hb] at hb'
          cases hb'
          have hcell : ∀ j, j < cs.length → w.cell? ⟨b, j, none⟩ = some (vals.getD j Go.undef) := fun j hj => by
            rw [cell_of_row w b j vals e _ hheap]
            simp [Array.getD_eq_getD_getElem?, hsize, hj]
          have hadr : (asAddr (tmps.getD a Go.undef)).run P w = .ok ⟨b, off, none⟩ w := by rw [hv]; rfl
          cases ag with
          | true =>
            simp only [if_true] at hr
            split at hr
            · rename_i hle
              cases hr
              have := run_loadVar_agg (P := P) (w := w) (b := b) (off := off) ha hs ((List.range sz).map fun j => vals.getD (off + j) Go.undef) (by simp) (fun j v hj => by
                rw [List.getElem?_map] at hj
                by_cases hlt : j < sz
                · simp [hlt] at hj; subst hj; have := hcell (off + j) (by omega); simpa using this
                · rw [List.getElem?_eq_none (by simp; omega)] at hj; cases hj)
              refine ⟨.agg ((List.range sz).map fun j => vals.getD (off + j) Go.undef).toArray, by simp only [resF, Sem.run_bind, hadr, Result.andThen_ok, this], rv_agg (n := sz) (f := fun j => vals.getD (off + j) Go.undef) (by simp; omega) ?_⟩
              intro j d hd
              rw [List.getElem?_take] at hd
              split at hd
              · rw [List.getElem?_drop] at hd
                exact hrv _ _ hd
              · cases hd
            · cases hr
          | false =>
            simp only [Bool.false_eq_true, if_false] at hr
            cases hq : cs[off]? with
            | none => rw [hq] at hr; cases hr
            | some d' =>
              rw [hq] at hr; simp at hr; subst hr
              have hlt := (List.getElem?_eq_some_iff.1 hq).1
              exact ⟨_, by simp only [resF, Sem.run_bind, hadr, Result.andThen_ok, run_loadVar_one (P := P) ha (hcell off hlt)], hrv _ _ hq⟩
        · cases hr
      · cases hr
    · cases hc

theorem run_ress (hm : Mod cx s φ h tmps w) : ∀ {rvs : List ResultVar} {rs : List SR} {ds : List D}, rvs.mapM (compRes P) = some rs → rs.mapM (resD s) = some ds →
    ∃ vs, (rvs.mapM (resF tmps)).run P w = .ok vs w ∧ RVL φ h vs ds
  | [], rs, ds, hc, hr => by
    simp at hc; subst hc
    simp at hr; subst hr
    exact ⟨[], rfl, trivial⟩
  | rv :: rvs, rs, ds, hc, hr => by
    simp only [List.mapM_cons, Option.bind_eq_bind, Option.bind_eq_some_iff, Option.pure_def, Option.some.injEq] at hc
    obtain ⟨sr, h1, rs', h2, rfl⟩ := hc
    simp only [List.mapM_cons, Option.bind_eq_bind, Option.bind_eq_some_iff, Option.pure_def, Option.some.injEq] at hr
    obtain ⟨d, h3, ds', h4, rfl⟩ := hr
    obtain ⟨v, hv, hvr⟩ := run_res hm h1 h3
    obtain ⟨vs, hvs, hvsr⟩ := run_ress hm h2 h4
    refine ⟨v :: vs, ?_, hvr, hvsr⟩
    rw [List.mapM_cons, Sem.run_bind, hv, Result.andThen_ok, Sem.run_bind, hvs]
    rfl

end

/-- A function of the program and its short text. -/
structure FnC (P : Program) (f : FuncId) (N : Nat) (sc : SC) (rs : List SR) : Prop where
  ex : ∃ fn c hi, P.funcs[f]? = some fn ∧ fn.body = some c ∧ fn.ntmps = N ∧ compC P N hi c = some sc ∧ fn.results.toList.mapM (compRes P) = some rs

section
variable {P : Program} {F : Fence} {n : Nat}

/-- A mark is come to. -/
theorem Mod.unmark {cx : Cx} {s : St} {φ : Mem} {h : Nat → Value} {tmps : Array Value} {w : World} {b : Nat} {ms : List Nat} (hm : Mod (cx.more (b :: ms)) s φ h tmps w) (hb : b ∉ ms) (hk : cx.kp b = none) (hge : cx.w0.heap.size ≤ b) :
    w.heap[b]? = some (.deferred (some [])) ∧ Mod (cx.more ms) s φ h tmps (w.putObj b (.deferred none)) := by
  have hkb : (cx.more (b :: ms)).kp b = some (.deferred (some [])) := by simp [Cx.more, hk]
  obtain ⟨h1, h2, h3⟩ := hm.kept b _ hkb
  have hlt := (Array.getElem?_eq_some_iff.1 h1).1
  refine ⟨h1, ?_⟩
  have hoth : ∀ k, k ≠ b → (w.putObj b (.deferred none)).heap[k]? = w.heap[k]? := fun k hk => World.putObj_heap_other hk
  refine ⟨hm.size, hm.tm, fun g o v hv => ?_, hm.ext, hm.new, fun i o ho => ?_, hm.sep, hm.os, hm.tape, hm.output, by rw [World.putObj_size]; exact hm.grow, hm.one, fun k hk1 hk2 => ?_, hm.hfix, fun k o hko => ?_⟩
  · have hg : g ≠ b := fun e => by rw [e, h2] at hv; cases hv
    rw [World.cell?_of_block (w := w) (a := ⟨g, o, none⟩) (hoth g hg)]
    exact hm.mem g o v hv
  · exact (hm.ob i o ho).keep (fun _ hb => hb) (fun k hk => hoth k fun e => h3 i (by rw [ho]; rfl) (e ▸ hk)) (fun _ _ _ h => h) (fun _ _ _ => rfl) (fun _ _ _ r => r)
  · rw [hoth k (fun e => by subst e; have h' : k < cx.w0.heap.size := hk1; omega)]; exact hm.frame k hk1 hk2
  · have hne : k ≠ b := fun e => by
      subst e
      simp only [Cx.more, hk, if_neg hb] at hko
      cases hko
    have hko' : (cx.more (b :: ms)).kp k = some o := by
      simp only [Cx.more] at hko ⊢
      simpa [hne] using hko
    obtain ⟨q1, q2, q3⟩ := hm.kept k o hko'
    exact ⟨by rw [hoth k hne]; exact q1, q2, q3⟩

theorem leaves_marks {cx : Cx} {fn : Func} {tmps : Array Value} {R : Ending → World → Prop} {s : St} {φ : Mem} {h : Nat → Value} (fin : ∀ w', Mod cx s φ h tmps w' → ∃ v, (results fn tmps).run P w' = .ok v w' ∧ R (.returned v) w') :
    ∀ (ms : List Nat) (w : World), (ms.Nodup ∧ ∀ b ∈ ms, cx.kp b = none ∧ cx.w0.heap.size ≤ b) → Mod (cx.more ms) s φ h tmps w → LeavesInM F n P fn tmps R (ms.map mkd) .returning w := by
  intro ms
  induction ms with
  | nil =>
    intro w _ hm
    rw [Cx.more_nil] at hm
    exact fin w hm
  | cons b ms ih =>
    intro w hnd hm
    obtain ⟨hnd1, hnd2⟩ := hnd
    rw [List.nodup_cons] at hnd1
    obtain ⟨hb, hk, hge⟩ := And.intro hnd1.1 (hnd2 b (by simp))
    obtain ⟨h1, hm'⟩ := hm.unmark hb hk hge
    exact ⟨by simp, .inl ⟨b, _, rfl, run_takeDeferred h1, ih _ ⟨hnd1.2, fun c hc => hnd2 c (List.mem_cons_of_mem _ hc)⟩ hm'⟩⟩

/-- A FUNCTION's RUN. -/
theorem fn_run [CodesOf P] (hdraw : DrawSound P) (hF : Fence.Open F) (hround : F.round = none) {f : FuncId} {sc : SC} {rs : List SR} {cx : Cx} (hgl : GlobC cx.φ0 cx.w0 cx.Z) (hf : FnC P f cx.N sc rs) {K : St → D → Prop} {ob : Obs} {args : List D} {φ : Mem} {h : Nat → Value} {w : World} {vs : Array Value}
    (hlen : vs.size ≤ cx.N) (hm : Mod cx ⟨envOf 0 args, ob⟩ φ h (vs ++ Array.replicate (cx.N - vs.size) Go.undef) w)
    (hsw : sw P cx.bs sc (fun e s => match e with | .normal => ∃ ds, rs.mapM (resD s) = some ds ∧ K s (packD ds) | .ret => ∃ ds, rs.mapM (resD s) = some ds ∧ K s (packD ds) | _ => False) ⟨envOf 0 args, ob⟩) :
    CallsIn F n P f vs w fun e w' => ∃ v r s' φ' h' tmps', e = .returned v ∧ K s' r ∧ RV φ' h' v r ∧ Mod cx s' φ' h' tmps' w' := by
  obtain ⟨fn, c, hi, hfn, hbody, hN, hcomp, hres⟩ := hf.ex
  refine callsIn_of_wp_marks hfn hbody (hF.fn f) ?_ hround
  rw [hN]
  have hr0 : InRound F cx := fun l hl => by rw [hround] at hl; cases hl
  refine wpIn_mono (sw_sound (n := n) hdraw hF c sc hcomp cx [] rfl rfl hgl hr0 _ _ φ h _ w hm hsw) ?_
  have fin : ∀ (s' : St) (φ' : Mem) (h' : Nat → Value) (tm : Array Value) (ds : List D), rs.mapM (resD s') = some ds → K s' (packD ds) → ∀ w', Mod cx s' φ' h' tm w' →
      ∃ v, (results fn tm).run P w' = .ok v w' ∧ ∃ v' r s' φ' h' tmps', Ending.returned v = .returned v' ∧ K s' r ∧ RV φ' h' v' r ∧ Mod cx s' φ' h' tmps' w' := by
    intro s' φ' h' tm ds hds hK w' hm'
    obtain ⟨vs', hvs, hrvs⟩ := run_ress hm' hres hds
    have hrun : (results fn tm).run P w' = .ok (if h : vs'.toArray.size = 1 then vs'.toArray[0] else .tuple vs'.toArray) w' := by
      rw [results_eq, Sem.run_bind, Array.mapM_eq_mapM_toList, Sem.run_map, hvs]
      rfl
    refine ⟨_, hrun, _, packD ds, s', φ', h', tm, rfl, hK, ?_, hm'⟩
    match vs', ds, hrvs with
    | [v], [d], hrvs => exact hrvs.1
    | [], [], _ => exact .tuple _ _ rfl (by simp)
    | v1 :: v2 :: vs', d1 :: d2 :: ds, hrvs =>
      have hne : ¬ (v1 :: v2 :: vs').toArray.size = 1 := by simp
      rw [dif_neg hne]
      refine .tuple _ _ (by have := hrvs.length; simpa using this) (fun j d hd => ?_)
      have := hrvs.get j d hd
      simpa [Array.getD_eq_getD_getElem?, List.getD] using this
    | [], _ :: _, hrvs => exact hrvs.elim
    | _ :: _, [], hrvs => exact hrvs.elim
    | [_], _ :: _ :: _, hrvs => exact hrvs.2.elim
    | _ :: _ :: _, [_], hrvs => exact hrvs.2.elim
  rintro e ⟨tm, df⟩ w' ⟨ms, hnd, hdf, s', φ', h', hq, hm'⟩
  simp only [List.append_nil] at hdf
  subst hdf
  cases e <;> first | exact hq.elim | (obtain ⟨ds, hds, hK⟩ := hq; exact leaves_marks (fin s' φ' h' tm ds hds hK) ms w' hnd hm')

end

/-- What is only grown by us is handed over as what it holds. -/
def dvt (obs : Nat → Option Ob) : D → D
  | .tuple ds => .tuple (ds.map (dv obs))
  | .agg ds => .agg (ds.map (dv obs))
  | d => dv obs d

theorem dvt_sound {own : Nat → Prop} {φ : Mem} {h : Nat → Value} {w : World} {obs : Nat → Option Ob} (hobs : ∀ i ob, obs i = some ob → live (h i) = true → ObR own φ h w (h i) ob) {v : Value} {d : D} (r : RV φ h v d) : RV φ h v (dvt obs d) := by
  unfold dvt
  split
  · obtain ⟨vs, rfl, h1, h2⟩ := r.tuple_inv
    refine .tuple _ _ (by simpa using h1) fun j d hd => ?_
    rw [List.getElem?_map] at hd
    cases hq : (_ : List D)[j]? with
    | none => rw [hq] at hd; cases hd
    | some d' => rw [hq] at hd; simp at hd; subst hd; exact dv_sound hobs (h2 j d' hq)
  · obtain ⟨vs, rfl, h1, h2⟩ := r.agg_inv
    refine .agg _ _ (by simpa using h1) fun j d hd => ?_
    rw [List.getElem?_map] at hd
    cases hq : (_ : List D)[j]? with
    | none => rw [hq] at hd; cases hd
    | some d' => rw [hq] at hd; simp at hd; subst hd; exact dv_sound hobs (h2 j d' hq)
  · exact dv_sound hobs r

/-- What a function leaves, under the first names. -/
def St.fin (k : Nat) (s : St) (r : D) : St := canS k (newN k s.ob [(0, r)]) [(0, r)] s.ob

def RetL (k : Nat) (R : D → Obs → Prop) (s : St) (r : D) : Prop := R ((s.fin k r).get (.t 0)) (s.fin k r).ob

section
variable {P : Program} {F : Fence} {n : Nat}

/-- What the activation leaves, as the caller sees it. -/
theorem Mod.leave {cx : Cx} {s' : St} {φ φ' : Mem} {h h' : Nat → Value} {tmps' : Array Value} {w w' : World} {ob : Obs} {k : Nat} (hw0 : cx.w0 = w) (hφ0 : cx.φ0 = φ) (hZ : cx.Z = ZOf ob h) (hbs : cx.bs = k) (hh0 : cx.h0 = h) (hgl : GlobC φ w (ZOf ob h)) (hob : Obs.top ob ≤ k)
    (hm : Mod cx s' φ' h' tmps' w') {v : Value} {r : D} (hv : RV φ' h' v r) : ∃ h2, RV φ' h2 v ((s'.fin k r).get (.t 0)) ∧ After ob φ h w (s'.fin k r).ob φ' h2 w' := by
  subst hw0
  subst hφ0
  subst hbs
  let cx1 : Cx := { cx with N := 1 }
  have hm1 : Mod cx1 ⟨[(0, r)], s'.ob⟩ φ' h' #[v] w' := by
    refine ⟨rfl, fun t d hd => ?_, hm.mem, hm.ext, hm.new, hm.ob, hm.sep, hm.os, hm.tape, hm.output, hm.grow, hm.one, hm.frame, hm.hfix, hm.kept⟩
    simp only [lk] at hd
    split at hd
    · rename_i e; cases hd; subst e; exact hv
    · cases hd
  obtain ⟨h2, hren, hm2⟩ := hm1.canS (tm := [(0, r)]) (fun _ _ h => h) (nw := newN cx.bs s'.ob [(0, r)])
  have hm3 : Mod cx1 (s'.fin cx.bs r) φ' h2 #[v] w' := hm2
  refine ⟨h2, ?_, ⟨⟨hm3.one, (hm3.glob (by show GlobC cx.φ0 cx.w0 cx.Z; rw [hZ]; exact hgl)).sub fun b hb => hm3.zof hb, hm3.mem, fun i o ho => ?_, hm3.sep⟩, hm3.ext, fun b o u h1 h2 => ?_, fun b h1 h2 => hm3.frame b h1 (by show ¬ cx.Z b; rw [hZ]; exact h2), fun i hi => ?_, hm3.os, hm3.tape, hm3.output, hm3.grow⟩⟩
  · exact hren v r hv
  · have := hm3.ob i o ho
    exact this.keep (fun b hb => hb.elim .inl fun h => .inr (by have h' : cx.Z b := h; rw [hZ] at h'; exact h')) (fun _ _ => rfl) (fun _ _ _ h => h) (fun _ _ _ => rfl) (fun _ _ _ r => r)
  · exact (hm3.new b o u h1 h2).elim .inl fun h => .inr (by have h' : cx.Z b := h; rw [hZ] at h'; exact h')
  · obtain ⟨o, ho⟩ := Option.isSome_iff_exists.1 hi
    have := (Obs.top_get hob ho).1
    rw [← hh0]
    exact hm3.hfix i this

/-- The callee's beginning. -/
theorem Loc.enter {ob ob1 : Obs} {φ : Mem} {h : Nat → Value} {w : World} (hl : Loc (fun _ => True) ob φ h w) {N k : Nat} {E : Env} {vs : Array Value} {kp : Nat → Option Obj}
    (hsz : vs.size = N) (hvs : ∀ t d, lk E t = some d → RV φ h (vs.getD t Go.undef) d) (hob1 : ∀ i o, lk ob1 i = some o → lk ob i = some o)
    (hkp : ∀ b o, kp b = some o → w.heap[b]? = some o ∧ (∀ off, φ b off = none) ∧ ∀ i, (lk ob1 i).isSome → blk (h i) ≠ some b) :
    Mod { N, w0 := w, φ0 := φ, Z := ZOf ob h, bs := k, h0 := h, kp } ⟨E, ob1⟩ φ h vs w := by
  refine ⟨hsz, hvs, hl.mem, fun _ _ _ h => h, (fun b o v h h' => by have h2 : φ b o = none := h'; rw [h] at h2; cases h2), fun i o ho => ?_, fun i j b hi hj => ?_, rfl, rfl, rfl, Nat.le_refl _, hl.one, fun _ _ _ => rfl, fun _ _ => rfl, hkp⟩
  · have hob := hl.obj i o (hob1 i o ho)
    have : ∀ b, blk (h i) = some b → ZOf ob h b := fun b hb => ⟨i, by rw [hob1 i o ho]; rfl, hb⟩
    revert this hob
    generalize h i = hv
    intro hob hz
    cases o with
    | cells cs => obtain ⟨b, vals, e, rfl, _, q⟩ := hob; exact ⟨b, vals, e, rfl, .inr (hz b rfl), q⟩
    | gen g gs => obtain ⟨b, vals, o, hb, _, q⟩ := hob; exact ⟨b, vals, o, hb, .inr (hz b hb), q⟩
    | arr fz sz e es => obtain ⟨q1, q2, xs, q3, q4, q5⟩ := hob; exact ⟨q1, q2, xs, q3, q4, fun b hb => ⟨.inr (hz b hb), (q5 b hb).2⟩⟩
  · obtain ⟨oi, hoi⟩ := Option.isSome_iff_exists.1 hi
    obtain ⟨oj, hoj⟩ := Option.isSome_iff_exists.1 hj
    exact hl.sep i j b (by rw [hob1 i oi hoi]; rfl) (by rw [hob1 j oj hoj]; rfl)

theorem envOf_get {φ : Mem} {h : Nat → Value} {N : Nat} {ds : List D} {vs : Array Value} (hr : RVL φ h vs.toList ds) (t : Nat) (d : D) (hd : lk (envOf 0 ds) t = some d) : RV φ h ((vs ++ Array.replicate (N - vs.size) Go.undef).getD t Go.undef) d := by
  obtain ⟨_, hd'⟩ := look_env ds 0 t d hd
  simp only [Nat.sub_zero] at hd'
  have hlen := hr.length
  have hlt := (List.getElem?_eq_some_iff.1 hd').1
  have := hr.get t d hd'
  have e : (vs ++ Array.replicate (N - vs.size) Go.undef).getD t Go.undef = vs.toList.getD t Go.undef := by
    simp only [Array.getD_eq_getD_getElem?, List.getD]
    rw [Array.getElem?_append_left (by simpa [← hlen] using hlt)]
    simp
  rw [e]; exact this

theorem RVL_append {φ : Mem} {h : Nat → Value} : ∀ {vs : List Value} {ds : List D} {vs' : List Value} {ds' : List D}, RVL φ h vs ds → RVL φ h vs' ds' → RVL φ h (vs ++ vs') (ds ++ ds')
  | [], [], _, _, _, h2 => h2
  | _ :: _, _ :: _, _, _, h1, h2 => ⟨h1.1, RVL_append h1.2 h2⟩
  | [], _ :: _, _, _, h1, _ => h1.elim
  | _ :: _, [], _, _, h1, _ => h1.elim

/-- A CALL OF A FUNCTION's VALUE, FROM THE FUNCTION's SHORT TEXT. -/
theorem CallL.fn [CodesOf P] (hdraw : DrawSound P) {f : FuncId} {N : Nat} {sc : SC} {rs : List SR} (hf : FnC P f N sc rs) (hpf : pureF P f = true) {first caps args : List D} {ob : Obs} {R : D → Obs → Prop} (k : Nat) (hk : Obs.top ob ≤ k)
    (hlen : (first ++ args ++ caps).length ≤ N)
    (hsw : sw P k sc (fun e s => match e with | .normal => ∃ ds, rs.mapM (resD s) = some ds ∧ RetL k R s (packD ds) | .ret => ∃ ds, rs.mapM (resD s) = some ds ∧ RetL k R s (packD ds) | _ => False) ⟨envOf 0 (first ++ args ++ caps), ob⟩) :
    CallL P (.func (.func f) first caps) args ob R := by
  intro F hF n φ h w v vs hp hv hvs
  obtain ⟨va, vc, rfl, ha, hc, ha', hc'⟩ := func_inv hv
  rw [run_callv_func hpf]
  show CallsIn F n P f (va ++ vs ++ vc) w _
  have hall : RVL φ h (va ++ vs ++ vc).toList (first ++ args ++ caps) := by
    rw [Array.toList_append, Array.toList_append]
    exact RVL_append (RVL_append (RVL_of_get _ _ (by simpa using ha) fun j d hd => by have := ha' j d hd; simpa [Array.getD_eq_getD_getElem?, List.getD] using this) hvs)
      (RVL_of_get _ _ (by simpa using hc) fun j d hd => by have := hc' j d hd; simpa [Array.getD_eq_getD_getElem?, List.getD] using this)
  have hsz : (va ++ vs ++ vc).size ≤ N := by
    have := hall.length
    simp only [Array.length_toList] at this
    omega
  refine hF.calls (callsIn_wide (n := 0).1 ?_) n
  have hm' := hp.enter (N := N) (k := k) (kp := fun _ => none) (vs := (va ++ vs ++ vc) ++ Array.replicate (N - (va ++ vs ++ vc).size) Go.undef) (by rw [Array.size_append, Array.size_replicate]; omega) (fun t d hd => envOf_get hall t d hd) (ob1 := ob) (fun _ _ h => h) (fun _ _ h => by cases h)
  refine CallsIn.mono (fn_run (cx := { N, w0 := w, φ0 := φ, Z := ZOf ob h, bs := k, h0 := h, kp := fun _ => none }) hdraw open_wide rfl hp.glob hf (K := RetL k R) hsz hm' hsw) ?_
  rintro e w' ⟨v, r, s', φ', h', tmps', rfl, hR, hrv, hm2⟩
  obtain ⟨h2, q1, q2⟩ := hm2.leave rfl rfl rfl rfl rfl hp.glob hk hrv
  exact ⟨v, _, _, φ', h2, rfl, hR, q1, q2⟩

/-- What a pure function hands back. -/
def RetK (r : D) (d : D) (ob : Obs) : Prop :=
  (∃ id sz e es, d = .vec id ∧ lk ob id = some (.arr true sz e es) ∧ r = .own sz e es) ∨ (D.clo (dvt (lk ob) d) = true ∧ r = dvt (lk ob) d)

/-- THE CONTRACT OF A PURE FUNCTION, FROM ITS CALL. -/
theorem FnOK.of_call {f : FuncId} (hpf : pureF P f = true) {args : List D} {r : D} (hc : CallL P (.func (.func f) [] []) args [] (RetK r)) : FnOK P f args r := by
  intro φ hh w vs hone hgl hsub hsz hargs
  have hl : Loc (fun _ => True) [] φ hh w := ⟨hone, hgl.sub (fun b ⟨i, hi, _⟩ => by simp [lk] at hi), hsub, fun i o ho => by simp [lk] at ho, fun i j b hi => by simp [lk] at hi⟩
  have hvs : RVL φ hh vs.toList args := RVL_of_get _ _ (by simpa using hsz) fun j d hd => by have := hargs j d hd; simpa [Array.getD_eq_getD_getElem?, List.getD] using this
  have hout := hc _ open_wide 0 φ hh w (.func (.func f) #[] #[]) vs hl (.func _ _ _ _ _ rfl rfl (by simp) (by simp)) hvs
  rw [run_callv_func hpf] at hout
  have hout' : CallsIn Fence.wide 0 P f (#[] ++ vs ++ #[]) w (Post [] φ hh w (RetK r)) := hout
  simp only [Array.empty_append, Array.append_empty] at hout'
  refine (callsIn_wide (n := 0).1 hout').mono ?_
  rintro e w' ⟨v, d, ob', φ', h', rfl, hK, hv, ha⟩
  have hz : ∀ b, ¬ ZOf [] hh b := fun b ⟨i, hi, _⟩ => by simp [lk] at hi
  have hbel : Below w.heap.size w w' := ⟨ha.os, ha.tape, ha.output, ha.grow, fun k hk => ha.frame k hk (hz k)⟩
  refine ⟨v, φ', rfl, ?_, hbel, ha.ext, ha.loc.mem, fun b o u h1 h2 => (ha.new b o u h1 h2).elim id fun h => (hz b h).elim⟩
  rcases hK with ⟨id, sz, e, es, rfl, hob, rfl⟩ | ⟨hclo, rfl⟩
  · have := ha.loc.obj id _ hob
    rw [← hv.vec_inv] at this
    exact this.keep (h' := noH) (fun b hb => hb.elim (fun h => h) fun h => (hz b h).elim) (fun _ _ => rfl) (fun _ _ _ h => h) (fun _ _ _ => rfl) (fun _ _ he => by cases he)
  · have hv' := dvt_sound (obs := lk ob') (own := fun b => w.heap.size ≤ b ∨ ZOf [] hh b) (fun i ob hi _ => ha.loc.obj i ob hi) hv
    revert hv' hclo
    generalize dvt (lk ob') d = r
    intro hclo hv'
    have hall : ∀ h2, RV φ' h2 v r := fun h2 => hv'.closed hclo h2
    cases r <;> first | exact hall | (simp [D.clo] at hclo)

end
end Go.Sx

namespace Go.Sx
open Go.RowKit
variable [Globs] [Codes]

def putP : List (Nat × D) → Env → Env
  | [], tm => tm
  | (t, d) :: r, tm => putP r ((t, d) :: eraseId t tm)

section
variable {P : Program} {F : Fence} {n : Nat}

theorem putP_rv {φ : Mem} {h : Nat → Value} : ∀ (ps : List Nat) (vs : List Value) (ds : List D) (tm : Env) (tmps : Array Value), RVL φ h vs ds → (∀ t ∈ ps, t < tmps.size) → (∀ t d, lk tm t = some d → RV φ h (tmps.getD t Go.undef) d) →
    ∀ t d, lk (putP (ps.zip ds) tm) t = some d → RV φ h (((ps.zip vs).foldl (fun tm x => tm.setIfInBounds x.1 x.2) tmps).getD t Go.undef) d
  | [], vs, ds, tm, tmps, _, _, h3 => by simpa [putP] using h3
  | p :: ps, v :: vs, d0 :: ds, tm, tmps, h1, h2, h3 => by
    intro t d hl
    simp only [List.zip_cons_cons, putP] at hl
    simp only [List.zip_cons_cons, List.foldl_cons]
    refine putP_rv ps vs ds _ (tmps.setIfInBounds p v) h1.2 (fun t ht => by simpa using h2 t (List.mem_cons_of_mem _ ht)) (fun t d hl => ?_) t d hl
    rw [look_put] at hl
    simp only [lk] at hl
    have hp := h2 p (by simp)
    split at hl
    · rename_i e; cases hl; subst e
      have : (tmps.setIfInBounds t v).getD t Go.undef = v := by simp [Array.getD, hp]
      rw [this]; exact h1.1
    · rename_i e
      have : (tmps.setIfInBounds p v).getD t Go.undef = tmps.getD t Go.undef := by simp [Array.getD_eq_getD_getElem?, Ne.symm e]
      rw [this]; exact h3 t d hl
  | p :: ps, [], [], tm, tmps, _, _, h3 => by simpa [putP] using h3
  | _ :: _, [], _ :: _, _, _, h1, _, _ => h1.elim
  | _ :: _, _ :: _, [], _, _, h1, _, _ => h1.elim

theorem zipfold_size : ∀ (l : List (Nat × Value)) (tmps : Array Value), (l.foldl (fun tm x => tm.setIfInBounds x.1 x.2) tmps).size = tmps.size
  | [], _ => rfl
  | _ :: l, tmps => by rw [List.foldl_cons, zipfold_size l]; simp

def Cx.setk (cx : Cx) (l : Nat) (o : Obj) : Cx := { cx with kp := fun b => if b = l then some o else cx.kp b }

theorem Mod.setKp {cx : Cx} {s : St} {φ : Mem} {h : Nat → Value} {tmps : Array Value} {w : World} {l : Nat} {o0 o1 : Obj} (hm : Mod cx s φ h tmps w) (hk : cx.kp l = some o0) (hown : cx.own l) : Mod (cx.setk l o1) s φ h tmps (w.putObj l o1) := by
  obtain ⟨h1, h2, h3⟩ := hm.kept l o0 hk
  have hlt := (Array.getElem?_eq_some_iff.1 h1).1
  have hoth : ∀ k, k ≠ l → (w.putObj l o1).heap[k]? = w.heap[k]? := fun k hk => World.putObj_heap_other hk
  refine ⟨hm.size, hm.tm, fun g o v hv => ?_, hm.ext, hm.new, fun i o ho => ?_, hm.sep, hm.os, hm.tape, hm.output, by rw [World.putObj_size]; exact hm.grow, hm.one, fun k hk1 hk2 => ?_, hm.hfix, fun k o hko => ?_⟩
  · have hg : g ≠ l := fun e => by rw [e, h2] at hv; cases hv
    rw [World.cell?_of_block (w := w) (a := ⟨g, o, none⟩) (hoth g hg)]
    exact hm.mem g o v hv
  · exact (hm.ob i o ho).keep (fun _ hb => hb) (fun k hk => hoth k fun e => h3 i (by rw [ho]; rfl) (e ▸ hk)) (fun _ _ _ h => h) (fun _ _ _ => rfl) (fun _ _ _ r => r)
  · rw [hoth k (fun e => by subst e; exact hown.elim (fun h => by have h' : k < cx.w0.heap.size := hk1; omega) (fun h => hk2 h))]; exact hm.frame k hk1 hk2
  · simp only [Cx.setk] at hko
    split at hko
    · rename_i e
      cases hko
      subst e
      exact ⟨World.putObj_heap_same hlt, h2, h3⟩
    · rename_i e
      obtain ⟨q1, q2, q3⟩ := hm.kept k o hko
      exact ⟨by rw [hoth k e]; exact q1, q2, q3⟩

/-- What a round leaves. -/
def YRet (P : Program) (k : Nat) (R : D → Obs → Prop) (rid N : Nat) (ps : Array Tmp) (a b : SC) (keys : List Nat) (ds : List D) (pend : Option Code) (s : St) : Prop :=
  R (.bool pend.isNone) ((rid, .gen (.loop (if pend.isNone then .ready else .done) pend ps a b N keys) ds) :: (s.canon k []).ob)

theorem zip_lk {t : Nat} {d : D} : ∀ {keys : List Nat} {ds : List D}, lk (keys.zip ds) t = some d → ∃ j : Nat, keys[j]? = some t ∧ ds[j]? = some d
  | [], _, h => by simp [lk] at h
  | _ :: _, [], h => by simp [lk] at h
  | k :: keys, x :: ds, h => by
    simp only [List.zip_cons_cons, lk] at h
    split at h
    · rename_i e; cases h; exact ⟨0, by simp [e], by simp⟩
    · obtain ⟨j, h1, h2⟩ := zip_lk h
      exact ⟨j + 1, by simpa using h1, by simpa using h2⟩

theorem kept_nil {α : Type} (l : List (Nat × α)) : kept l [] = [] := rfl

theorem canon_rid {s : St} {k rid : Nat} (h : lk s.ob rid = none) (hk : rid < k) : lk (s.canon k []).ob rid = none := by
  cases hq : lk (s.canon k []).ob rid with
  | none => rfl
  | some o =>
    exfalso
    simp only [St.canon, canS] at hq
    rw [lk_append, lk_sortO] at hq
    cases h1 : lk (oldO k (canG k (newN k s.ob (kept s.tm []))) s.ob) rid with
    | some o' =>
      obtain ⟨_, o0, h2, _⟩ := oldO_lk _ _ _ h1
      rw [h] at h2; cases h2
    | none =>
      rw [h1] at hq
      simp only [Option.none_or] at hq
      obtain ⟨i, o0, h2, h3, _⟩ := newO_lk _ _ _ _ hq
      simp only [canG] at h2
      split at h2
      · cases h2; rw [h] at h3; cases h3
      · cases h4 : idx i (newN k s.ob (kept s.tm [])) with
        | none => rw [h4] at h2; cases h2
        | some q => rw [h4] at h2; simp at h2; omega

/-- A CALL OF yield: THE LOOP's BODY. -/
theorem CallL.yld [CodesOf P] (hdraw : DrawSound P) {N : Nat} {ps : Array Tmp} {a b : SC} {keys : List Nat} {ds : List D} {rid : Nat} {args : List D} {ob : Obs} {R : D → Obs → Prop} (k : Nat) (hk : Obs.top ob ≤ k)
    (hrec : lk ob rid = some (.gen (.loop .ready none ps a b N keys) ds)) (hps : ps.size = args.length) (hpN : ∀ t ∈ ps.toList, t < N)
    (hsw : sw P k a (fun e s => match e with
      | .normal => sw P k b (fun e s' => lk s'.ob rid = none ∧ match e with
        | .normal => YRet P k R rid N ps a b keys ds none s'
        | .ret => YRet P k R rid N ps a b keys ds (some .ret) s'
        | .exit i => YRet P k R rid N ps a b keys ds (some (.exit i)) s'
        | _ => False) s
      | _ => False) ⟨putP (ps.toList.zip args) (keys.zip ds), eraseId rid ob⟩) :
    CallL P (.yld rid) args ob R := by
  intro F hF n φ h w v vs hp hv hvs
  obtain ⟨l, hhl, rfl⟩ : ∃ l, h rid = .pointer (some ⟨l, 0, none⟩) ∧ v = .func (.yield l) #[] #[] := by
    cases hv with
    | pure r => cases r
    | yld _ l hh => exact ⟨l, hh, rfl⟩
  have hob := hp.obj rid _ hrec
  rw [hhl] at hob
  obtain ⟨b0, vals, o, hb0, hown, hheap, hgis, hvl, hvrv, hnone⟩ := hob
  cases hb0
  obtain ⟨_, r, rfl, hst, hpe, hpar, hca, hcb, htsz, rfl⟩ := hgis
  obtain ⟨hia, ha⟩ := (CodesOf.ci (P := P) _ _ _).1 hca
  obtain ⟨hib, hb⟩ := (CodesOf.ci (P := P) _ _ _).1 hcb
  have hlt := (Array.getElem?_eq_some_iff.1 hheap).1
  have hridk : rid < k := (Obs.top_get hk hrec).1
  have hvsz : vs.size = r.params.size := by rw [hpar, hps]; have := hvs.length; simpa using this
  have hrv0 : ∀ t d, lk (keys.zip ds) t = some d → RV φ h (r.tmps.getD t Go.undef) d := fun t d hl => by
    obtain ⟨j, h1, h2⟩ := zip_lk hl
    have h3 := hvrv j d h2
    have : (keys.map fun t => r.tmps.getD t Go.undef).getD j Go.undef = r.tmps.getD t Go.undef := by simp [List.getD, List.getElem?_map, h1]
    rw [this] at h3
    exact h3
  -- the round's frame
  have hrun : (callv (.func (.yield l) #[] #[]) vs).run P w = .ok (.round l r.fn ((r.params.zip vs).foldl (fun tmps (t, a) => tmps.setIfInBounds t a) r.tmps) r.assign r.body) w := by
    simp only [callv, Deferred.ofValue, invoke, Sem.run_bind, Sem.run_pure, Result.andThen_ok]
    rw [Array.empty_append]
    exact run_yield hheap hvsz
  rw [hrun]
  show RoundIn F n P l r.fn _ r.assign r.body w _
  refine roundIn_of_wpIn (hF.fn _) ?_
  have hfold : (r.params.zip vs).foldl (fun tmps (t, a) => tmps.setIfInBounds t a) r.tmps = (ps.toList.zip vs.toList).foldl (fun tm x => tm.setIfInBounds x.1 x.2) r.tmps := by
    rw [hpar, ← Array.foldl_toList, Array.toList_zip]
  rw [hfold]
  have htmsz : ((ps.toList.zip vs.toList).foldl (fun tm x => tm.setIfInBounds x.1 x.2) r.tmps).size = N := by rw [zipfold_size, htsz]
  have hm' := hp.enter (N := N) (k := k) (kp := fun b => if b = l then some (.loop r) else none) (E := putP (ps.toList.zip args) (keys.zip ds)) (ob1 := eraseId rid ob) htmsz
    (putP_rv ps.toList vs.toList args (keys.zip ds) r.tmps hvs (fun t ht => by rw [htsz]; exact hpN t ht) hrv0)
    (fun i o ho => by
      rw [look_erase] at ho
      split at ho
      · cases ho
      · exact ho)
    (fun q o hq => by
      split at hq
      · rename_i e
        cases hq
        subst e
        refine ⟨hheap, hnone, fun i hi hbi => ?_⟩
        rw [look_erase] at hi
        split at hi
        · cases hi
        · rename_i hne
          exact hne (hp.sep i rid q hi (by rw [hrec]; rfl) hbi (by rw [hhl]; rfl))
      · cases hq)
  have hZl : ZOf ob h l := ⟨rid, by rw [hrec]; rfl, by rw [hhl]; rfl⟩
  refine wpIn_mono (sw_sound (n := n) hdraw (hF.inRound l) r.assign a ha _ [] rfl rfl hp.glob (fun l' hl' => ⟨r, by
    have : some l = some l' := hl'
    cases this
    simp⟩) _ _ φ h _ w hm' hsw) ?_
  rintro e a1 w1 ⟨ms1, hnd1, hdf1, s1, φ1, h1, hq1, hm1⟩
  cases e <;> try exact hq1.elim
  -- the round begins
  have hk1 : ∀ {cx1 : Cx}, cx1.kp l = some (.loop r) → ∀ ms, (cx1.more ms).kp l = some (.loop r) := fun hk ms => by simp [Cx.more, hk]
  have hk1' := hk1 (cx1 := { N, w0 := w, φ0 := φ, Z := ZOf ob h, bs := k, h0 := h, kp := fun b => if b = l then some (.loop r) else none }) (by simp) ms1
  have hheap1 := (hm1.kept l _ hk1').1
  refine ⟨_, run_beginRound hheap1 hst, ?_⟩
  have hm1b := hm1.setKp (o1 := .loop { r with state := .busy }) hk1' (.inr hZl)
  obtain ⟨tm1, df1⟩ := a1
  refine wpIn_mono (sw_sound (n := n) hdraw (hF.inRound l) r.body b hb _ df1 rfl rfl hp.glob (fun l' hl' => ⟨{ r with state := .busy }, by
    have : some l = some l' := hl'
    cases this
    simp [Cx.setk]⟩) _ _ φ1 h1 tm1 _ hm1b hq1) ?_
  rintro e a2 w2 ⟨ms2, hnd2, hdf2, s2, φ2, h2, ⟨hrn, hq2⟩, hm2⟩
  have hk2 : ((Cx.setk (Cx.more { N, w0 := w, φ0 := φ, Z := ZOf ob h, bs := k, h0 := h, kp := fun b => if b = l then some (.loop r) else none } ms1) l (.loop { r with state := .busy })).more ms2).kp l = some (.loop { r with state := .busy }) := by
    simp [Cx.more, Cx.setk]
  have hheap2 := (hm2.kept l _ hk2).1
  have fin : ∀ pend : Option Code, YRet P k R rid N ps a b keys ds pend s2 →
      ∃ v w', (Instr.endRound l pend).run P w2 = .ok v w' ∧ Post ob φ h w R (.returned v) w' := by
    intro pend hy
    refine ⟨_, _, run_endRound pend hheap2, ?_⟩
    have hm3 := hm2.setKp (o1 := .loop { { r with state := .busy } with state := if pend.isNone then .ready else .done, pending := pend }) hk2 (.inr hZl)
    obtain ⟨hh, _, hm4⟩ := hm3.canS (tm := []) (fun _ _ h => by simp [lk] at h) (nw := newN k s2.ob [])
    have hcn : canS k (newN k s2.ob []) [] s2.ob = s2.canon k [] := rfl
    have hm5 : Mod _ (s2.canon k []) φ2 hh _ _ := hm4
    have hhl' : hh rid = .pointer (some ⟨l, 0, none⟩) := by rw [hm5.hfix rid hridk]; exact hhl
    have hrn' := canon_rid hrn hridk
    have hkl := hm5.kept l (.loop { { r with state := .busy } with state := if pend.isNone then .ready else .done, pending := pend }) (by simp [Cx.setk])
    refine ⟨_, .bool pend.isNone, _, φ2, hh, rfl, hy, .pure (.bool _), ⟨⟨hm5.one, (hm5.glob hp.glob).sub (fun b ⟨i, hi, hb⟩ => by
      simp only [lk] at hi
      split at hi
      · rename_i e
        subst e
        rw [hhl'] at hb
        simp only [blk, Option.some.injEq] at hb
        exact hb ▸ .inr hZl
      · exact hm5.zof ⟨i, hi, hb⟩), hm5.mem, fun i o ho => ?_, fun i j q hi hj hqi hqj => ?_⟩, hm5.ext, fun b o u q1 q2 => (hm5.new b o u q1 q2), fun b q1 q2 => hm5.frame b q1 q2, fun i hi => ?_, hm5.os, hm5.tape, hm5.output, hm5.grow⟩⟩
    · simp only [lk] at ho
      split at ho
      · rename_i e
        subst e
        cases ho
        rw [hhl']
        refine ⟨l, keys.map fun t => r.tmps.getD t Go.undef, _, rfl, .inr hZl, hkl.1, ⟨⟨l, rfl⟩, _, rfl, rfl, rfl, hpar, hca, hcb, htsz, rfl⟩, hvl, fun j d hd => ?_, fun off => hkl.2.1 off⟩
        have hdt : D.top d ≤ k := topL_get (Obs.top_get hk hrec).2 (List.mem_of_getElem? hd)
        exact ((hvrv j d hd).mono hm5.ext).under hdt fun i hi => hm5.hfix i hi
      · have hob := hm5.ob i o ho
        exact hob.keep (fun b hb => hb) (fun _ _ => rfl) (fun _ _ _ h => h) (fun _ _ _ => rfl) (fun _ _ _ r => r)
    · have key : ∀ i', (lk (s2.canon k []).ob i').isSome → blk (hh i') = some q → blk (hh rid) = some q → False := fun i' h1 h2 h3 => by
        rw [hhl'] at h3
        cases h3
        exact hkl.2.2 i' h1 h2
      simp only [lk] at hi hj
      by_cases e1 : i = rid <;> by_cases e2 : j = rid
      · rw [e1, e2]
      · rw [if_neg e2] at hj
        exact (key j hj hqj (by rw [← e1]; exact hqi)).elim
      · rw [if_neg e1] at hi
        exact (key i hi hqi (by rw [← e2]; exact hqj)).elim
      · rw [if_neg e1] at hi
        rw [if_neg e2] at hj
        exact hm5.sep i j q hi hj hqi hqj
    · obtain ⟨o, ho⟩ := Option.isSome_iff_exists.1 hi
      exact hm5.hfix i (Obs.top_get hk ho).1
  cases e <;> first | exact hq2.elim | exact fin _ hq2

end
end Go.Sx

namespace Go.Sx
open Go.RowKit
variable [Globs] [Codes]

section congr
variable {P : Program} {dst : Nat} {obs obs' : Nat → Option Ob} {K : D → Option Ob → Prop}

theorem dv_congr {d : D} (h : ∀ i ∈ vids [d], obs i = obs' i) : dv obs d = dv obs' d := by
  cases d <;> first | rfl | (rename_i id; simp only [dv]; rw [h id (by simp [vids])])

theorem vids_cons {d : D} {r : List D} {i : Nat} : i ∈ vids (d :: r) ↔ i ∈ vids [d] ∨ i ∈ vids r := by
  cases d <;> simp [vids]

theorem dvs_congr : ∀ {ds : List D}, (∀ i ∈ vids ds, obs i = obs' i) → ds.map (dv obs) = ds.map (dv obs')
  | [], _ => rfl
  | d :: r, h => by
    rw [List.map_cons, List.map_cons, dv_congr fun i hi => h i (vids_cons.2 (.inl hi)), dvs_congr fun i hi => h i (vids_cons.2 (.inr hi))]

theorem buildD_congr : ∀ {ps : List (Nat × Nat)} {ds cs : List D}, (∀ i ∈ vids ds, obs i = obs' i) → buildD obs cs ps ds = buildD obs' cs ps ds
  | [], [], cs, _ => rfl
  | [], _ :: _, cs, _ => rfl
  | _ :: _, [], cs, _ => rfl
  | (off, sz) :: ps, d :: ds, cs, h => by
    simp only [buildD]
    rw [dv_congr (obs' := obs') fun i hi => h i (vids_cons.2 (.inl hi))]
    split
    · exact buildD_congr fun i hi => h i (vids_cons.2 (.inr hi))
    · rfl

theorem sliceOf_congr {d : D} (h : ∀ i ∈ vids [d], obs i = obs' i) : sliceOf obs d = sliceOf obs' d := by
  cases d <;> first | rfl | (rename_i id; simp only [sliceOf]; rw [h id (by simp [vids])])

theorem stO_congr {sz : SK} {a b id : Nat} {x y : D} {o : Ob} (h : stO sz x y obs = some (a, b, id, o)) (hi : obs id = obs' id) : stO sz x y obs' = some (a, b, id, o) := by
  unfold stO at h ⊢
  cases x with
  | ptr id' off =>
    cases sz with
    | m key => cases h
    | c sz =>
    simp only at h ⊢
    have e : id' = id := by
      cases hq : obs id' with
      | none => rw [hq] at h; cases h
      | some q =>
        rw [hq] at h
        cases q with
        | cells cs =>
          simp only at h
          split at h
          · cases h; rfl
          · cases h
        | arr => cases h
        | gen => cases h
    subst e
    rw [← hi]; exact h
  | vptr id' i j sz' =>
    cases sz with
    | m key => cases h
    | c sz =>
    simp only at h ⊢
    have e : id' = id := by
      cases hq : obs id' with
      | none => rw [hq] at h; cases h
      | some q =>
        rw [hq] at h
        cases q with
        | cells cs => cases h
        | arr fz _ _ _ =>
          cases fz with
          | true => cases h
          | false =>
            simp only at h
            split at h
            · cases h; rfl
            · cases h
        | gen => cases h
    subst e
    rw [← hi]; exact h
  | map id' =>
    cases sz with
    | c sz => cases h
    | m key =>
    simp only at h ⊢
    have e : id' = id := by
      cases hq : obs id' with
      | none => rw [hq] at h; cases h
      | some q =>
        rw [hq] at h
        cases q with
        | cells cs => cases h
        | arr fz _ _ _ => cases h
        | gen g ds =>
          cases g with
          | loop => cases h
          | map ks =>
            simp only at h
            split at h
            · cases h; rfl
            · cases h
    subst e
    rw [← hi]; exact h
  | _ => cases h

theorem rowOf_congr {d : D} (h : ∀ i ∈ vids [d], obs i = obs' i) : rowOf obs d = rowOf obs' d := by
  cases d <;> first | rfl | (rename_i id; simp only [rowOf]; rw [h id (by simp [vids])])

theorem mlook_congr {kd : Option IntKind} {z key : D} {id : Nat} (hev : evl P dst (.mlook kd z) [.map id, key] obs K) (h : obs id = obs' id) : evl P dst (.mlook kd z) [.map id, key] obs' K := by
  simp only [evl] at hev ⊢
  rw [← h]; exact hev

theorem load_congr {sz id off : Nat} (hev : evl P dst (.load true sz) [.ptr id off] obs K) (h : ∀ i ∈ rdA obs (.load true sz) [.ptr id off], obs i = obs' i) : evl P dst (.load true sz) [.ptr id off] obs' K := by
  have h1 : obs id = obs' id := h id (by simp [rdA])
  simp only [evl] at hev ⊢
  rw [← h1]
  cases hq : obs id with
  | none => rw [hq] at hev; exact hev
  | some o =>
    rw [hq] at hev
    cases o with
    | cells cs =>
      simp only [if_true] at hev ⊢
      rw [← dvs_congr (obs := obs) fun i hi => h i (by simp only [rdA, hq]; exact List.mem_cons_of_mem _ hi)]
      exact hev
    | arr => exact hev
    | gen => exact hev

theorem evl_congr {op : AOp} {xs : List D} (hev : evl P dst op xs obs K) (h : ∀ i ∈ rdA obs op xs, obs i = obs' i) : evl P dst op xs obs' K := by
  by_cases hl : ∃ sz id off, op = .load true sz ∧ xs = [.ptr id off]
  · obtain ⟨sz, id, off, rfl, rfl⟩ := hl
    exact load_congr hev h
  by_cases hlm : ∃ kd z id key, op = .mlook kd z ∧ xs = [.map id, key]
  · obtain ⟨kd, z, id, key, rfl, rfl⟩ := hlm
    exact mlook_congr hev (h id (by simp [rdA]))
  unfold evl at hev
  split at hev
  all_goals try exact absurd ⟨_, _, _, _, rfl, rfl⟩ hlm
  all_goals try (simp only [evl]; exact hev)
  all_goals try
    (rename_i ag sz id off
     cases ag
     · simp only [evl]
       rw [← h id (by simp [rdA, pids])]
       exact hev
     · exact absurd ⟨sz, id, off, rfl, rfl⟩ hl)
  all_goals simp only [rdA] at h
  all_goals try simp only [evl]
  all_goals first
    | (rw [← buildD_congr (obs := obs) h]; exact hev)
    | (rw [← h _ (by simp [vids])]; exact hev)
    | (rw [← rowOf_congr (obs := obs) h]; exact hev)
    | (rw [← sliceOf_congr (obs := obs) fun i hi => h i (vids_cons.2 (.inl hi))]; exact hev)
    | (rw [← dvs_congr (obs := obs) h]; exact hev)
    | exact hev

theorem rdA_congr {op : AOp} {xs : List D} (h : ∀ i ∈ rdA obs op xs, obs i = obs' i) : rdA obs' op xs = rdA obs op xs := by
  by_cases hl : ∃ sz id off, op = .load true sz ∧ xs = [.ptr id off]
  · obtain ⟨sz, id, off, rfl, rfl⟩ := hl
    have h1 : obs id = obs' id := h id (by simp [rdA])
    simp only [rdA, h1]
  · unfold rdA
    split
    · exact absurd ⟨_, _, _, rfl, rfl⟩ hl
    all_goals rfl

end congr

section has
variable {P : Program} {b : Nat} {s s' : St} {e : Eff}

theorem get_congr {x : X} (h : ∀ t ∈ tmpsX [x], lk s.tm t = lk s'.tm t) : s.get x = s'.get x := by
  cases x with
  | t t => simp only [St.get]; rw [h t (by simp [tmpsX])]
  | c d => rfl

theorem tmpsX_cons {x : X} {r : List X} {t : Nat} : t ∈ tmpsX (x :: r) ↔ t ∈ tmpsX [x] ∨ t ∈ tmpsX r := by
  cases x <;> simp [tmpsX]

theorem gets_congr : ∀ {xs : List X}, (∀ t ∈ tmpsX xs, lk s.tm t = lk s'.tm t) → xs.map s.get = xs.map s'.get
  | [], _ => rfl
  | x :: r, h => by
    rw [List.map_cons, List.map_cons, get_congr fun t ht => h t (tmpsX_cons.2 (.inl ht)), gets_congr fun t ht => h t (tmpsX_cons.2 (.inr ht))]

theorem gud_congr {g : Option (Nat × Bool)} {p q : Prop} (h : ∀ t ∈ tmpsG g, lk s.tm t = lk s'.tm t) (hg : gud g s p q) : gud g s' p q := by
  cases g with
  | none => exact hg
  | some gw =>
    obtain ⟨t, w⟩ := gw
    simp only [gud] at hg ⊢
    rw [← h t (by simp [tmpsG])]
    exact hg

theorem gud_mono {g : Option (Nat × Bool)} {p q p' q' : Prop} (hp : p → p') (hq : q → q') (hg : gud g s p q) : gud g s p' q' := by
  cases g with
  | none => exact hp hg
  | some gw =>
    obtain ⟨t, w⟩ := gw
    simp only [gud] at hg ⊢
    split at hg
    · split at hg
      · rename_i hb; rw [if_pos hb]; exact hp hg
      · rename_i hb; rw [if_neg hb]; exact hq hg
    · exact hq hg
    · exact hg

theorem dva_congr {obs obs' : Nat → Option Ob} {d : D} (h : ∀ i ∈ vids [d], obs i = obs' i) : dva obs d = dva obs' d := by
  cases d <;> first | rfl | (rename_i id; simp only [dva]; rw [h id (by simp [vids])])

theorem handO_congr {ob ob' : Obs} {g : Nat → Option Nat} : ∀ {r : List Nat} {k : Nat}, (∀ i ∈ r, lk ob i = lk ob' i) → handO ob g k r = handO ob' g k r
  | [], _, _ => rfl
  | i :: r, k, h => by
    simp only [handO]
    rw [h i (by simp), handO_congr fun j hj => h j (List.mem_cons_of_mem _ hj)]

theorem vids_mem {xs : List X} {y : X} (hy : y ∈ xs) {f : X → D} {i : Nat} (hi : i ∈ vids [f y]) : i ∈ vids (xs.map f) := by
  induction xs with
  | nil => cases hy
  | cons z r ih =>
    rw [List.map_cons]
    rcases List.mem_cons.1 hy with rfl | hy
    · exact vids_cons.2 (.inl hi)
    · exact vids_cons.2 (.inr (ih hy))

theorem tmpsX_mem {xs : List X} {y : X} (hy : y ∈ xs) {t : Nat} (ht : t ∈ tmpsX [y]) : t ∈ tmpsX xs := by
  induction xs with
  | nil => cases hy
  | cons z r ih =>
    rcases List.mem_cons.1 hy with rfl | hy
    · exact tmpsX_cons.2 (.inl ht)
    · exact tmpsX_cons.2 (.inr (ih hy))

/-- What an operation does hangs on what it looks at alone. -/
theorem HasB.congr {o : SOp} (hh : HasB P b o s e) (ht : ∀ t ∈ o.tmps, lk s.tm t = lk s'.tm t) (ho : ∀ i ∈ e.rd, lk s.ob i = lk s'.ob i) : HasB P b o s' e := by
  cases o with
  | a dst g op xs =>
    obtain ⟨h1, h2, h3⟩ := hh
    have hx := gets_congr (s := s) (s' := s') (xs := xs) fun t h => ht t (by simp [SOp.tmps, h])
    rw [h1] at ho
    refine ⟨?_, h2, ?_⟩
    · rw [h1, ← hx]; exact (rdA_congr ho).symm
    · rw [← hx]; exact evl_congr h3 ho
  | st g sz x y =>
    have hx := get_congr (s := s) (s' := s') (x := x) fun t h => ht t (by simp only [SOp.tmps, List.mem_append]; exact .inl (tmpsX_cons.2 (.inl h)))
    have hy := get_congr (s := s) (s' := s') (x := y) fun t h => ht t (by simp only [SOp.tmps, List.mem_append]; exact .inl (tmpsX_cons.2 (.inr h)))
    simp only [HasB] at hh ⊢
    rw [← hx, ← hy]
    split at hh
    · rename_i a1 b1 id ob hst
      have hrd : id ∈ e.rd := by rw [hh.2]; simp
      rw [stO_congr hst (ho id hrd)]
      exact hh
    · exact hh.elim
  | app dst g fz sz et x y =>
    have hx := get_congr (s := s) (s' := s') (x := x) fun t h => ht t (by simp only [SOp.tmps, List.mem_append]; exact .inl (tmpsX_cons.2 (.inl h)))
    have hy := get_congr (s := s) (s' := s') (x := y) fun t h => ht t (by simp only [SOp.tmps, List.mem_append]; exact .inl (tmpsX_cons.2 (.inr h)))
    simp only [HasB] at hh ⊢
    rw [← hx, ← hy]
    split at hh
    · rename_i ys _ hso
      obtain ⟨h1, h2⟩ := hh
      have hrd : ∀ i ∈ vids [s.get y], i ∈ e.rd := fun i hi => by
        split at h2
        · rw [h2.2]; exact hi
        · split at h2
          · rw [h2.2.2.2]; exact List.mem_cons_of_mem _ hi
          · exact h2.elim
        · exact h2.elim
      rw [← sliceOf_congr (obs := lk s.ob) fun i hi => ho i (hrd i hi), hso]
      refine ⟨h1, ?_⟩
      split at h2
      · exact h2
      · rename_i id hxd
        split at h2
        · rename_i fz' sz' e' es hl
          have hid : id ∈ e.rd := by rw [h2.2.2.2]; simp
          rw [← ho id hid, hl]
          exact h2
        · exact h2.elim
      · exact h2.elim
    · exact hh.elim
  | cd dst g x xs =>
    obtain ⟨nm, r, ob', base, h1, h2, h3, h4, h5⟩ := hh
    have hx := get_congr (s := s) (s' := s') (x := x) fun t h => ht t (by simp only [SOp.tmps, List.mem_append]; exact .inl (tmpsX_cons.2 (.inl h)))
    have hxs : ∀ x ∈ xs, s.get x = s'.get x := fun y hy => get_congr fun t h => ht t (by
      simp only [SOp.tmps, List.mem_append]
      exact .inl (tmpsX_cons.2 (.inr (tmpsX_mem hy h))))
    have hrd : e.rd = nm ++ vids (xs.map s.get) := by rw [h5]
    have hmap : xs.map s.get = xs.map s'.get := List.map_congr_left hxs
    have hdva : (xs.map fun x => dva (lk s.ob) (s.get x)) = xs.map fun x => dva (lk s'.ob) (s'.get x) := by
      refine List.map_congr_left fun y hy => ?_
      rw [← hxs y hy]
      refine dva_congr fun i hi => ho i ?_
      rw [hrd]
      exact List.mem_append_right _ (vids_mem hy hi)
    refine ⟨nm, r, ob', base, h1, fun i hi => ?_, h3, ?_, ?_⟩
    · rw [← ho i (by rw [hrd]; exact List.mem_append_left _ hi)]; exact h2 i hi
    · rw [← hx, ← hdva, ← handO_congr (ob := s.ob) fun i hi => ho i (by rw [hrd]; exact List.mem_append_left _ hi)]
      exact h4
    · rw [← hmap]; exact h5

end has

end Go.Sx
