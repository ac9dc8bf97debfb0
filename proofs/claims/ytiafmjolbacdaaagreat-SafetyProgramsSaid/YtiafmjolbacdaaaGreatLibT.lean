/- The library's contracts for the trees. -/
import Derived.Test.YtiafmjolbacdaaaGreatRun
import Derived.Test.YtiafmjolbacdaaaGreatSx7
set_option linter.unusedSectionVars false
set_option linter.unusedVariables false
set_option linter.unusedSimpArgs false
set_option linter.deprecated false
set_option maxRecDepth 100000
namespace Go.Proofs.YtiafmjolbacdaaaGreat
open Go.Sx

theorem hdraw : DrawSound Tryz.prog := drawSound (by kernel_rfl)

def libT (f : FuncId) (xs : List D) : Option RT := none
theorem libT_ok : ∀ f xs rt,libT f xs = some rt -> rt.says fun r _ => FnOK Tryz.prog f xs r := fun _ _ _ h => by cases h
abbrev PT := FuncId -> List D -> Option RT
def PT.OK (p : PT) : Prop := ∀ f xs rt,p f xs = some rt -> rt.says fun r _ => FnOK Tryz.prog f xs r
def PT.or (p q : PT) : PT := fun f xs => match p f xs with
 | some r => some r
 | none => q f xs
abbrev QT := D -> List D -> Obs -> Option RT
def QT.OK (p : QT) : Prop := ∀ d xs ob rt,p d xs ob = some rt -> rt.says fun r ob' => CallL Tryz.prog d xs ob fun r0 ob0 => r0 = r /\ ob0 = ob'
def QT.or (p q : QT) : QT := fun d xs ob => match p d xs ob with
 | some r => some r
 | none => q d xs ob
theorem QT.or_ok {p q : QT} (hp : p.OK) (hq : q.OK) : (p.or q).OK := by
 intro d xs ob rt h
 unfold QT.or at h
 split at h
 ·cases h; exact hp _ _ _ _ (by assumption)
 ·exact hq _ _ _ _ h
def qnone : QT := fun _ _ _ => none
theorem qnone_ok : qnone.OK := fun _ _ _ _ h => by cases h
def noE : Nat -> Int -> List D := fun _ _ => []
def ctr (p : PT) (q : QT := qnone) (e : Nat -> Int -> List D := noE) : Ctr := ⟨fun _ => p,fun _ => q,e⟩
theorem ctr_ok {p : PT} {q : QT} {e : Nat -> Int -> List D} (hp : p.OK) (hq : q.OK) : (ctr p q e).OK Tryz.prog := ⟨fun _ => hp,fun _ => hq⟩
end Go.Proofs.YtiafmjolbacdaaaGreat
