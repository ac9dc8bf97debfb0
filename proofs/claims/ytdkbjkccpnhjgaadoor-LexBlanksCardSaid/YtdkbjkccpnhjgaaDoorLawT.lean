/- The laws' tables. -/
import Derived.Test.YtdkbjkccpnhjgaaDoorAlike
import Derived.Test.YtdkbjkccpnhjgaaDoorAwake
set_option linter.unusedSectionVars false
set_option linter.unusedVariables false
set_option linter.unusedSimpArgs false
set_option linter.deprecated false
set_option maxRecDepth 100000
namespace Go.Proofs.YtdkbjkccpnhjgaaDoor
open Go.Sx
/-- What the laws call. -/
def lawP : PT := fun f xs =>
  if f = 7 then (match xs with
    | [] => some (.ok True (.bool true) [])
    | _ => none)
  else if f = 11 then (match xs with
    | [.str s] => some (.ok True (.tuple [.slice ((Lx.lexR s).1.map Lx.tokC) [], .int .i64 (Lx.lexR s).2.1, .int .i64 (Lx.lexR s).2.2]) [])
    | _ => none)
  else if f = 12 then (match xs with
    | [.slice es _, .slice es2 _] => some (.ok (es = (es.map Lx.deT).map Lx.tokC ∧ es2 = (es2.map Lx.deT).map Lx.tokC ∧ es.length ≤ 4611686018427387904) (.bool (Lx.alikeB (es.map Lx.deT) (es2.map Lx.deT))) [])
    | _ => none)
  else if f = 13 then (match xs with
    | [.str s] => some (.ok (s.length ≤ 4611686018427387904) (.bool (Lx.emptyB false s)) [])
    | _ => none)
  else if f = 8 then (match xs with
    | [.slice es _] => some (.ok (es = (es.map Lx.deT).map Lx.tokC ∧ es.length ≤ 1073741824 ∧ (Lib.join (txs (es.map Lx.deT)) [32]).length ≤ 140737488355328) (.str (Lib.join (txs (es.map Lx.deT)) [32])) [])
    | _ => none)
  else if f = 14 then (match xs with
    | [.int .i64 n, .int .i64 m] => some (.ok ((0 < m ∧ m ≤ 1000000) ∧ (-9223372036854775808 ≤ n ∧ n ≤ 9223372036854775807)) (.int .i64 (Lx.pickG n m)) [])
    | _ => none)
  else none
theorem lawP_ok : lawP.OK := by
  intro f xs rt h
  unfold lawP at h
  split at h
  · rename_i hf; subst hf
    split at h
    · cases h; exact fun _ => awake_ok
    · cases h
  split at h
  · rename_i hf; subst hf
    split at h
    · cases h; exact fun _ => lex_ok _
    · cases h
  split at h
  · rename_i hf; subst hf
    split at h
    · rename_i es ext es2 ext2
      cases h
      rintro ⟨h1, h2, h3⟩
      have := alike_ok (es.map Lx.deT) (es2.map Lx.deT) ext ext2 (by simpa using h3)
      rwa [← h1, ← h2] at this
    · cases h
  split at h
  · rename_i hf; subst hf
    split at h
    · cases h; exact fun hl => empty_ok _ hl
    · cases h
  split at h
  · rename_i hf; subst hf
    split at h
    · rename_i es ext
      cases h
      rintro ⟨h1, h2, h3⟩
      have := join_ok (es.map Lx.deT) ext (by simpa using h2) h3
      rwa [← h1] at this
    · cases h
  split at h
  · rename_i hf; subst hf
    split at h
    · cases h; exact fun hp => pick_ok _ _ hp.1 hp.2
    · cases h
  · cases h
end Go.Proofs.YtdkbjkccpnhjgaaDoor
