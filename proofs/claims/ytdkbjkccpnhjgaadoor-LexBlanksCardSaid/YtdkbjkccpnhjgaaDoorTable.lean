/- The table of the short texts. -/
import Derived.Test.YtdkbjkccpnhjgaaDoorTexts
set_option linter.unusedSectionVars false
set_option linter.unusedVariables false
set_option linter.unusedSimpArgs false
set_option linter.deprecated false
set_option maxRecDepth 100000
namespace Go.Proofs.YtdkbjkccpnhjgaaDoor
open Go.Sx

def tabL : List (Nat × Nat × SC × List SR) := [
  (3, 36, sc3, rs3),
  (4, 139, sc4, rs4),
  (5, 106, sc5, rs5),
  (6, 159, sc6, rs6),
  (7, 98, sc7, rs7),
  (8, 20, sc8, rs8),
  (9, 23, sc9, rs9),
  (10, 32, sc10, rs10),
  (11, 29, sc11, rs11),
  (12, 41, sc12, rs12),
  (13, 40, sc13, rs13),
  (14, 16, sc14, rs14),
  (16, 4, sc16, rs16),
  (20, 35, sc20, rs20),
  (21, 37, sc21, rs21),
  (22, 87, sc22, rs22),
  (25, 50, sc25, rs25),
  (26, 4, sc26, rs26),
  (27, 5, sc27, rs27),
  (28, 33, sc28, rs28),
  (29, 13, sc29, rs29),
  (30, 22, sc30, rs30),
  (31, 9, sc31, rs31),
  (32, 33, sc32, rs32),
  (35, 9, sc35, rs35),
  (37, 9, sc37, rs37),
  (38, 24, sc38, rs38),
  (41, 19, sc41, rs41),
  (42, 2, sc42, rs42),
  (43, 8, sc43, rs43),
  (45, 25, sc45, rs45),
  (46, 9, sc46, rs46),
  (47, 11, sc47, rs47),
  (48, 9, sc48, rs48),
  (49, 18, sc49, rs49),
  (50, 9, sc50, rs50),
  (55, 18, sc55, rs55),
  (57, 37, sc57, rs57),
  (58, 17, sc58, rs58),
  (59, 15, sc59, rs59),
  (68, 17, sc68, rs68)]

theorem tabL_ok : ∀ x ∈ tabL, FnC Tryd.prog x.1 x.2.1 x.2.2.1 x.2.2.2 ∧ pureF Tryd.prog x.1 = true := by
  intro x hx
  simp only [tabL, List.mem_cons, List.not_mem_nil, or_false] at hx
  rcases hx with rfl | rfl | rfl | rfl | rfl | rfl | rfl | rfl | rfl | rfl | rfl | rfl | rfl | rfl | rfl | rfl | rfl | rfl | rfl | rfl | rfl | rfl | rfl | rfl | rfl | rfl | rfl | rfl | rfl | rfl | rfl | rfl | rfl | rfl | rfl | rfl | rfl | rfl | rfl | rfl | rfl
  · exact fp3
  · exact fp4
  · exact fp5
  · exact fp6
  · exact fp7
  · exact fp8
  · exact fp9
  · exact fp10
  · exact fp11
  · exact fp12
  · exact fp13
  · exact fp14
  · exact fp16
  · exact fp20
  · exact fp21
  · exact fp22
  · exact fp25
  · exact fp26
  · exact fp27
  · exact fp28
  · exact fp29
  · exact fp30
  · exact fp31
  · exact fp32
  · exact fp35
  · exact fp37
  · exact fp38
  · exact fp41
  · exact fp42
  · exact fp43
  · exact fp45
  · exact fp46
  · exact fp47
  · exact fp48
  · exact fp49
  · exact fp50
  · exact fp55
  · exact fp57
  · exact fp58
  · exact fp59
  · exact fp68

end Go.Proofs.YtdkbjkccpnhjgaaDoor
