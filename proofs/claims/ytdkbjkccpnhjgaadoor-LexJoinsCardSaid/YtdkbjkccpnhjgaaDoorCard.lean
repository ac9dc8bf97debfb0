/- LexJoins: for every input the call returns true, and each argument reads as before; the variables that its row lists hold what the program's text lays. -/
import Derived.Test.YtdkbjkccpnhjgaaDoorWorld
import Derived.Test.YtdkbjkccpnhjgaaDoorAwake
import Derived.Test.YtdkbjkccpnhjgaaDoorLaw
import Derived.Test.YtdkbjkccpnhjgaaDoorSxIn
import Derived.Test.YtdkbjkccpnhjgaaDoorTie
import Derived.WalkKit
import Derived.OpenShut
import Derived.SevenTiedAt
import Derived.Carry
set_option linter.unusedSectionVars false
set_option linter.unusedVariables false
set_option linter.unusedSimpArgs false
set_option linter.deprecated false
namespace Go.Proofs.YtdkbjkccpnhjgaaDoor
open Go.Sx Go.ChangeShapes Go.WideShapes Go.ChangeAt Go.RowKit

theorem laidOut : laidOutB Tryd.prog = true := by kernel_rfl
theorem own : ownKnob Tryd.prog.godebug = none := by kernel_rfl
theorem tab_eq : Rows.laid_strings_asciiSpace (H := Unit) = Lib.tabData .u8 Lib.asciiSpaceTab := by kernel_rfl

/-- strings.Join, as LexJoins uses it. -/
theorem joins : JoinOK := fun ts hn hj => FnOK.join Tryd.strings_Join_none Tryd.strings_Join ts [] [32] (by omega) (by unfold jn at hj; omega)

theorem gA : Tryd.prog.globalNamed "strings.asciiSpace" = some 1 := by kernel_rfl
theorem gE : Tryd.prog.globalNamed "strconv.ErrSyntax" = some 2 := by kernel_rfl
theorem gAt : (Tryd.prog.globals[1]?).map (·.type) = some 98 := by kernel_rfl
theorem gEt : (Tryd.prog.globals[2]?).map (·.type) = some 59 := by kernel_rfl
theorem c98 : Tryd.prog.cellsOf 98 = 256 := by kernel_rfl
theorem c5 : Tryd.prog.cellsOf 5 = 1 := by kernel_rfl

theorem trod_ifc {P : Program} {w : World} {base : Nat} {sp : Nat → Bool} {fuel : Nat} {t : TypeId} {ms : Array (String × TypeId)} {cs : List Value} {d : DataW Unit} {p : List MemPlace} (ht : P.underlying t = some (.interface ms))
    (h : DataW.trod (fun _ => ()) P w base sp false fuel t cs = some (d, p)) : (cs = [.nilIface] ∧ d = .nil) ∨ ∃ u v, cs = [.iface u v] := by
  cases fuel with
  | zero => simp [DataW.trod] at h
  | succ n =>
    unfold DataW.trod at h
    rw [ht] at h
    split at h <;> simp_all

/-- What the layer wants of the program's variables. -/
theorem globOK {W : World} {l : List (String × DataW Unit)} (hA : ("strings.asciiSpace", Rows.laid_strings_asciiSpace) ∈ l) (hE : ("strconv.ErrSyntax", Rows.laid_strconv_ErrSyntax) ∈ l) (hL : laidMet Tryd.prog l W) : GlobOK (memW W) := by
  intro g cs hg0
  have hg : (if g = 1 then some (Lib.asciiSpaceTab.map fun z => D.int .u8 z) else if g = 2 then some [D.ifc] else none) = some cs := hg0
  clear hg0
  split at hg
  · rename_i h1
    cases hg
    subst h1
    obtain ⟨g', t', cs, fuel, p, hg', ht', hvar, hd⟩ := Lib.laidMet.reads hL hA
    obtain rfl := Option.some.inj (gA.symm.trans hg')
    obtain rfl := Option.some.inj (gAt.symm.trans ht')
    rw [tab_eq] at hd
    have hcs := Lib.cells_of_tab Tryd.underlying98 Tryd.underlying5 c5 c98 hd
    have htab : Lib.TabIs Tryd.prog W "strings.asciiSpace" .u8 Lib.asciiSpaceTab := by unfold Lib.TabIs; rw [hvar, ← hcs]
    refine .fptr 1 0 _ (fun j => .int .u8 (Lib.asciiSpaceTab.getD j 0)) (fun j d hj => ?_) (fun j d hj => ?_)
    · have hjl : j < Lib.asciiSpaceTab.length := by
        rcases Nat.lt_or_ge j Lib.asciiSpaceTab.length with h | h
        · exact h
        · rw [List.getElem?_eq_none (by simpa using h)] at hj; cases hj
      show W.cell? ⟨1, 0 + j, none⟩ = _
      rw [Nat.zero_add]
      exact htab.cell gA j hjl
    · simp only [List.getElem?_map, Option.map_eq_some_iff] at hj
      obtain ⟨z, hz, rfl⟩ := hj
      have : Lib.asciiSpaceTab.getD j 0 = z := by simp [List.getD, hz]
      rw [this]
      exact .int _ _
  · split at hg
    · rename_i h1
      cases hg
      subst h1
      obtain ⟨g', t', cs, fuel, p, hg', ht', hvar, hd⟩ := Lib.laidMet.reads hL hE
      obtain rfl := Option.some.inj (gE.symm.trans hg')
      obtain rfl := Option.some.inj (gEt.symm.trans ht')
      have hif : ∃ u v, cs.toList = [.iface u v] := by
        rcases trod_ifc Tryd.underlying59 hd with ⟨_, h⟩ | h
        · cases h
        · exact h
      obtain ⟨u, v, hcs⟩ := hif
      have hcell : W.cell? ⟨2, 0, none⟩ = some (.iface u v) := by
        have h0 : cs[0]? = some (.iface u v) := by
          have : cs.toList[0]? = some (.iface u v) := by rw [hcs]; rfl
          simpa using this
        have := World.var?_cell gE hvar 0
        rw [h0] at this
        exact this
      refine .fptr 2 0 _ (fun _ => .iface u v) (fun j d hj => ?_) (fun j d hj => ?_)
      · cases j with
        | zero => exact hcell
        | succ j => simp at hj
      · cases j with
        | zero => simp at hj; subst hj; exact .ifc u v
        | succ j => simp at hj
    · cases hg

theorem sh22 : shOf Tryd.prog 5 22 = some [.slice [.int .u8, .str, .int .i64]] := by kernel_rfl

theorem post_below {H : Type} {enc : TypeId × Value → H} {P : Program} {f : Func} {s : ChangeSpec} {apart fresh handsOn : Bool} {W W' : World} {args : Array Value} {v : Value} {ds gs : List (DataW H)} {before pa pv : List MemPlace}
    (hW : DataW.Whole enc P f.params.toList s.vars apart W args.toList ds gs before)
    (hres : ∀ (b : Nat) (sp : Nat → Bool) (hd : Bool), DataW.TrodAll enc P W' b sp hd f.resultTypes.toList (v.resultList f.resultTypes.size) (s.fn H (ds ++ gs)).results [])
    (hargs : DataW.TrodAll enc P W' 0 (fun b => decide (b < W.heap.size)) true f.params.toList args.toList (s.fn H (ds ++ gs)).args pa)
    (hvars : DataW.TrodVars enc P W' (fun b => decide (b < W.heap.size)) s.vars (s.fn H (ds ++ gs)).vars pv)
    (hps : before = pa ++ pv) (hb : Below W.heap.size W W') : s.post enc P f apart fresh handsOn false W args v W' := by
  refine ⟨ds, gs, before, [], pa, pv, hW, hres _ _ _, hargs, hvars, World.keptBut_mono (fun p hp => ⟨hp, ?_⟩) (hb.frame (· ∈ before)), fun h => by cases h⟩
  rw [hps, List.mem_append] at hp
  exact Or.inr hp

/-- Elements that fit are tokens. -/
theorem toks_of {B : Nat} : ∀ {es : List (List D)}, (∀ e ∈ es, Sh.fits B [.int .u8, .str, .int .i64] e) → ∃ ts : List Tk, es = ts.map tc ∧ ∀ t ∈ ts, t.2.1.length ≤ B
  | [], _ => ⟨[], rfl, fun _ h => by cases h⟩
  | e :: r, h => by
    obtain ⟨ts, rfl, hb⟩ := toks_of (es := r) fun x hx => h x (List.mem_cons_of_mem _ hx)
    have := h e (List.mem_cons_self ..)
    simp only [Sh.fits, Sh.fit] at this
    obtain ⟨_, _, rfl, ⟨k, rfl, _⟩, _, _, rfl, ⟨s, rfl, hs⟩, _, _, rfl, ⟨a, rfl, _⟩, rfl⟩ := this
    refine ⟨(k, s, a) :: ts, rfl, fun t ht => ?_⟩
    rcases List.mem_cons.1 ht with rfl | ht
    · exact hs
    · exact hb t ht

set_option maxRecDepth 100000 in
/-- WHAT THE WALK GIVES, FOR EVERY ARGUMENT AND EVERY WORLD THAT HOLDS WHAT IS LISTED. -/
theorem contract (H : Type) (enc : TypeId × Value → H) (W : World) (base : Nat) (args : Array Value) (ds gs : List (DataW H)) (before : List MemPlace)
    (hval : ∀ (j : Nat) t v, Tryd.f3.params[j]? = some t → args[j]? = some v → Value.okWide Tryd.prog W .any base t v)
    (hW : DataW.Whole enc Tryd.prog Tryd.f3.params.toList Rows.lexJoinsSpec.vars false W args.toList ds gs before)
    (hsz : (DataW.weightsEach Tryd.prog (Tryd.f3.params.toList ++ Rows.lexJoinsSpec.plain.varTypes Tryd.prog) (ds ++ gs)).all (· ≤ reachBytes) = true)
    (hL : laidMet Tryd.prog Rows.lexJoinsRow.laid W) :
    Calls Tryd.prog 3 args W fun e W' => ∃ v, e = .returned v ∧ Rows.lexJoinsSpec.post enc Tryd.prog Tryd.f3 false true false false W args v W' := by
  have hW' := hW
  obtain ⟨p, q, hA0, hV, rfl, hfz, hnd⟩ := hW
  have hA : DataW.TrodAll enc Tryd.prog W 0 (fun _ => true) true Tryd.f3.params.toList args.toList ds p := hA0
  rw [Tryd.params3] at hA hval hsz
  obtain ⟨v0, vs0, d0, ds0, p0, q0, hargs, rfl, rfl, h0, r0⟩ := trodAll_cons hA
  obtain ⟨rfl, rfl, rfl⟩ := trodAll_nil r0
  obtain rfl : args = #[v0] := by cases args; simp_all
  obtain ⟨rfl, rfl⟩ := trodVars_none hV
  have hok : Value.okWide Tryd.prog W .any base 22 v0 := hval 0 22 v0 rfl (by simp)
  obtain ⟨a0, len, cap, rfl⟩ := okWide_slice Tryd.underlying22 hok
  have hspot : ∀ a, a0 = some a → a.spot = none := by
    rintro a rfl
    have h1 : Cell.ok Tryd.prog W .any base 22 (.slice (some a) len cap) := by
      unfold Value.okWide at hok
      rw [Tryd.underlying22] at hok
      simp only at hok
      unfold Cell.okWide at hok
      rw [Tryd.underlying22] at hok
      exact hok
    unfold Cell.ok at h1
    rw [Tryd.underlying22] at h1
    exact h1.2.2.2.1
  obtain ⟨fuel, hf⟩ := h0
  have hwt : wOK 281474976710656 (d0.weights Tryd.prog 22) := fun x hx => by
    have h1 : ∀ x ∈ d0.weights Tryd.prog 22, x ≤ reachBytes := by
      simp only [List.all_eq_true, decide_eq_true_eq] at hsz
      intro x hx
      exact hsz x (by simpa [DataW.weightsEach] using hx)
    have := h1 x hx
    unfold reachBytes at this
    omega
  obtain ⟨dd, hfit, hcr⟩ := read_in 281474976710656 5 fuel 22 _ _ _ sh22 hf hwt (fun h => by cases h) (fun _ v hv a n c he => by
    simp only [Value.cells] at hv
    have : v = .slice a0 len cap := by simpa using hv
    rw [this] at he
    injection he with h1 h2 h3
    exact hspot a h1)
  simp only [Sh.fits, Sh.fit] at hfit
  obtain ⟨_, _, rfl, ⟨es, rfl, hlen, hel⟩, rfl⟩ := hfit
  obtain ⟨ts, rfl, htb⟩ := toks_of hel
  have hrep : Rep (memW W) (.slice a0 len cap) (.slice (ts.map tc) []) := hcr.2 0 _ _ rfl rfl
  have hlaw := law_ok hdraw joins awake_ok ts [] (by simp at hlen; omega) htb
  have hcall := hlaw (memW W) noH W #[.slice a0 len cap] (fun _ => rfl) (globOK (by simp [Rows.lexJoinsRow]) (by simp [Rows.lexJoinsRow]) hL) (fun b o v h => h) rfl (fun j d hd => by
    cases j with
    | zero => simp at hd; subst hd; exact .pure hrep
    | succ j => simp at hd)
  clear hA0
  simp only [List.append_nil] at hW'
  refine hcall.mono fun e W' ⟨v, φ', he, hr, hb, _⟩ => ?_
  subst he
  have hv : v = .bool true := (hr noH).bool_inv
  subst hv
  have hlt : ∀ x ∈ p0, x.block < W.heap.size := fun x hx => by simpa using hW'.lt x (by simpa using hx)
  exact ⟨_, rfl, post_below (pa := p0) (pv := []) hW' (fun _ _ _ => trodAll_cons_mk (shut_bool Tryd.underlying4 _) trodAll_mk0) (trodAll_mk1 (Below.trod laidOut (by kernel_rfl) (of_decide_eq_true (by kernel_rfl)) ⟨fuel, hf⟩ hb hlt)) rfl (by simp) hb⟩

end Go.Proofs.YtdkbjkccpnhjgaaDoor
