/- The table of the short texts. -/
import Derived.Test.YtdkbjkccpnhjgaaGreatDoorTexts
set_option linter.unusedSectionVars false
set_option linter.unusedVariables false
set_option linter.unusedSimpArgs false
set_option linter.deprecated false
set_option maxRecDepth 100000
namespace Go.Proofs.YtdkbjkccpnhjgaaGreatDoor
open Go.Sx

def tabL : List (Nat × Nat × SC × List SR) := [
  (3, 12, sc3, rs3),
  (4, 192, sc4, rs4),
  (5, 141, sc5, rs5),
  (6, 98, sc6, rs6),
  (7, 41, sc7, rs7),
  (8, 17, sc8, rs8),
  (9, 29, sc9, rs9),
  (10, 9, sc10, rs10),
  (11, 24, sc11, rs11),
  (12, 9, sc12, rs12),
  (13, 10, sc13, rs13),
  (14, 20, sc14, rs14),
  (15, 176, sc15, rs15),
  (16, 29, sc16, rs16),
  (17, 23, sc17, rs17),
  (18, 4, sc18, rs18),
  (19, 25, sc19, rs19),
  (20, 9, sc20, rs20),
  (21, 11, sc21, rs21),
  (22, 9, sc22, rs22),
  (23, 18, sc23, rs23),
  (24, 9, sc24, rs24),
  (25, 70, sc25, rs25),
  (26, 20, sc26, rs26),
  (27, 13, sc27, rs27),
  (28, 6, sc28, rs28),
  (29, 47, sc29, rs29),
  (31, 17, sc31, rs31),
  (32, 17, sc32, rs32),
  (33, 9, sc33, rs33),
  (34, 9, sc34, rs34),
  (35, 30, sc35, rs35),
  (36, 53, sc36, rs36),
  (37, 32, sc37, rs37),
  (38, 35, sc38, rs38),
  (39, 37, sc39, rs39),
  (40, 87, sc40, rs40),
  (41, 37, sc41, rs41),
  (42, 17, sc42, rs42),
  (43, 15, sc43, rs43),
  (45, 28, sc45, rs45),
  (46, 21, sc46, rs46),
  (47, 4, sc47, rs47),
  (49, 22, sc49, rs49),
  (50, 14, sc50, rs50),
  (51, 14, sc51, rs51),
  (52, 14, sc52, rs52),
  (53, 22, sc53, rs53),
  (54, 16, sc54, rs54),
  (58, 25, sc58, rs58),
  (59, 38, sc59, rs59),
  (60, 50, sc60, rs60),
  (61, 4, sc61, rs61),
  (62, 5, sc62, rs62),
  (63, 33, sc63, rs63),
  (64, 13, sc64, rs64),
  (65, 22, sc65, rs65),
  (66, 9, sc66, rs66),
  (67, 33, sc67, rs67),
  (68, 17, sc68, rs68),
  (72, 18, sc72, rs72),
  (74, 58, sc74, rs74),
  (75, 6, sc75, rs75),
  (76, 23, sc76, rs76),
  (80, 17, sc80, rs80),
  (81, 9, sc81, rs81),
  (82, 41, sc82, rs82),
  (83, 9, sc83, rs83),
  (84, 9, sc84, rs84),
  (85, 9, sc85, rs85),
  (88, 19, sc88, rs88),
  (89, 2, sc89, rs89),
  (90, 8, sc90, rs90),
  (95, 9, sc95, rs95),
  (122, 25, sc122, rs122),
  (125, 8, sc125, rs125),
  (131, 14, sc131, rs131),
  (132, 14, sc132, rs132)]

theorem tabL_ok : ∀ x ∈ tabL, FnC Tryz.prog x.1 x.2.1 x.2.2.1 x.2.2.2 ∧ pureF Tryz.prog x.1 = true := by
  intro x hx
  simp only [tabL, List.mem_cons, List.not_mem_nil, or_false] at hx
  rcases hx with rfl | rfl | rfl | rfl | rfl | rfl | rfl | rfl | rfl | rfl | rfl | rfl | rfl | rfl | rfl | rfl | rfl | rfl | rfl | rfl | rfl | rfl | rfl | rfl | rfl | rfl | rfl | rfl | rfl | rfl | rfl | rfl | rfl | rfl | rfl | rfl | rfl | rfl | rfl | rfl | rfl | rfl | rfl | rfl | rfl | rfl | rfl | rfl | rfl | rfl | rfl | rfl | rfl | rfl | rfl | rfl | rfl | rfl | rfl | rfl | rfl | rfl | rfl | rfl | rfl | rfl | rfl | rfl | rfl | rfl | rfl | rfl | rfl | rfl | rfl | rfl | rfl | rfl
  · exact fp3
  · exact fp4
  · exact fp5
  · exact fp6
  · exact fp7
  · exact fp8
  · exact fp9
  · exact fp10
  · exact fp11
  · exact fp12
  · exact fp13
  · exact fp14
  · exact fp15
  · exact fp16
  · exact fp17
  · exact fp18
  · exact fp19
  · exact fp20
  · exact fp21
  · exact fp22
  · exact fp23
  · exact fp24
  · exact fp25
  · exact fp26
  · exact fp27
  · exact fp28
  · exact fp29
  · exact fp31
  · exact fp32
  · exact fp33
  · exact fp34
  · exact fp35
  · exact fp36
  · exact fp37
  · exact fp38
  · exact fp39
  · exact fp40
  · exact fp41
  · exact fp42
  · exact fp43
  · exact fp45
  · exact fp46
  · exact fp47
  · exact fp49
  · exact fp50
  · exact fp51
  · exact fp52
  · exact fp53
  · exact fp54
  · exact fp58
  · exact fp59
  · exact fp60
  · exact fp61
  · exact fp62
  · exact fp63
  · exact fp64
  · exact fp65
  · exact fp66
  · exact fp67
  · exact fp68
  · exact fp72
  · exact fp74
  · exact fp75
  · exact fp76
  · exact fp80
  · exact fp81
  · exact fp82
  · exact fp83
  · exact fp84
  · exact fp85
  · exact fp88
  · exact fp89
  · exact fp90
  · exact fp95
  · exact fp122
  · exact fp125
  · exact fp131
  · exact fp132

end Go.Proofs.YtdkbjkccpnhjgaaGreatDoor
