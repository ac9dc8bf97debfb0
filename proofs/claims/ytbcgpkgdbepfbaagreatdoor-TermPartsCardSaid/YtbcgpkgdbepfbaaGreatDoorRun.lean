/- What is known of the library's functions that the program calls, as a table of results. -/
import Derived.Test.YtbcgpkgdbepfbaaGreatDoorTable
import Derived.Test.YtbcgpkgdbepfbaaGreatDoorShelf
set_option linter.unusedSectionVars false
set_option linter.unusedVariables false
set_option linter.unusedSimpArgs false
set_option linter.deprecated false
set_option maxRecDepth 100000
namespace Go.Proofs.YtbcgpkgdbepfbaaGreatDoor
open Go.Sx

def strs : List (List D) → Option (List (List UInt8))
  | [] => some []
  | [.str s] :: r => match strs r with
    | some l => some (s :: l)
    | none => none
  | _ => none

theorem strs_some : ∀ {es : List (List D)} {l : List (List UInt8)}, strs es = some l → es = l.map fun t => [.str t]
  | [], l, h => by simp only [strs, Option.some.injEq] at h; subst h; rfl
  | [.str s] :: r, l, h => by
    simp only [strs] at h
    split at h
    · rename_i l' hl
      simp only [Option.some.injEq] at h
      subst h
      rw [strs_some hl]; rfl
    · cases h
  | [] :: _, _, h => by simp [strs] at h
  | (_ :: _ :: _) :: _, _, h => by simp [strs] at h
  | [.undef] :: _, _, h => by simp [strs] at h
  | [.bool _] :: _, _, h => by simp [strs] at h
  | [.int _ _] :: _, _, h => by simp [strs] at h
  | [.slice _ _] :: _, _, h => by simp [strs] at h
  | [.nilp] :: _, _, h => by simp [strs] at h
  | [.nilf] :: _, _, h => by simp [strs] at h
  | [.agg _] :: _, _, h => by simp [strs] at h
  | [.tuple _] :: _, _, h => by simp [strs] at h
  | [.ptr _ _] :: _, _, h => by simp [strs] at h
  | [.fptr _] :: _, _, h => by simp [strs] at h
  | [.vec _] :: _, _, h => by simp [strs] at h
  | [.vptr _ _ _ _] :: _, _, h => by simp [strs] at h
  | [.map _] :: _, _, h => by simp [strs] at h
  | [.func _ _ _] :: _, _, h => by simp [strs] at h
  | [.raw _] :: _, _, h => by simp [strs] at h
  | [.nils] :: _, _, h => by simp [strs] at h
  | [.own _ _ _] :: _, _, h => by simp [strs] at h
  | [.yld _] :: _, _, h => by simp [strs] at h
  | [.ifc] :: _, _, h => by simp [strs] at h

/-- What is known of the library's functions. -/
def libF (f : FuncId) (xs : List D) : Option D :=
  if f = 85 then match xs with
    | [.slice es _, .str sep] => match strs es with
      | some l => if l.length ≤ 140737488355328 ∧ (Lib.join l sep).length ≤ 140737488355328 then some (.str (Lib.join l sep)) else none
      | none => none
    | _ => none
  else if f = 69 then match xs with
    | [.str s, .str t] => if s.length < 4294967281 then some (.bool (Lib.contains s t)) else none
    | _ => none
  else if f = 84 then match xs with
    | [.int .i64 n] => if -9223372036854775808 ≤ n ∧ n ≤ 9223372036854775807 then some (.str (Lib.itoa n)) else none
    | _ => none
  else if f = 49 then match xs with
    | [.str s, .str t] => some (.int .i64 (Lib.compareBytes s t))
    | _ => none
  else none

theorem libF_ok : ∀ f xs r, libF f xs = some r → FnOK Tryz.prog f xs r := by
  intro f xs r h
  unfold libF at h
  split at h
  · rename_i hf; subst hf
    split at h
    · rename_i es ext sep
      split at h
      · rename_i l hl
        split at h
        · rename_i hb
          cases h
          rw [strs_some hl]
          exact FnOK.join Tryz.strings_Join_none Tryz.strings_Join l ext sep hb.1 hb.2
        · cases h
      · cases h
    · cases h
  split at h
  · rename_i hf; subst hf
    split at h
    · split at h
      · rename_i hb
        cases h
        exact FnOK.contains (g := 0) (by decide) (fun s t m w hs hm => Tryz.strings_Contains s t m w hs hm) _ _ hb
      · cases h
    · cases h
  split at h
  · rename_i hf; subst hf
    split at h
    · rename_i n
      split at h
      · rename_i hb
        cases h
        exact FnOK.itoa (g := 3) rfl (by kernel_rfl) (fun n h0 h1 w ht => Any.strconv_Itoa Tryz.laysM171 n h0 h1 w ht) n hb.1 hb.2
      · cases h
    · cases h
  split at h
  · rename_i hf; subst hf
    split at h
    · cases h
      exact FnOK.strcmp Tryz.strings_Compare _ _
    · cases h
  · cases h

def tab : Tab := ⟨fun f => lk tabL f, fun _ _ _ => none, libF⟩

theorem lk_in {α : Type} : ∀ {l : List (Nat × α)} {i : Nat} {x : α}, lk l i = some x → (i, x) ∈ l
  | [], _, _, h => by simp [lk] at h
  | (j, y) :: r, i, x, h => by
    simp only [lk] at h
    split at h
    · rename_i e; cases h; subst e; simp
    · exact List.mem_cons_of_mem _ (lk_in h)

theorem tab_ok : tab.OK Tryz.prog := ⟨fun f N sc rs h => tabL_ok _ (lk_in h), (fun _ _ _ _ _ h => by cases h), libF_ok⟩

end Go.Proofs.YtbcgpkgdbepfbaaGreatDoor
