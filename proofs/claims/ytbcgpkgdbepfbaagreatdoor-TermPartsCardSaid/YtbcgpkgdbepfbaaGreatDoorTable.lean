/- The table of the short texts. -/
import Derived.Test.YtbcgpkgdbepfbaaGreatDoorTexts
set_option linter.unusedSectionVars false
set_option linter.unusedVariables false
set_option linter.unusedSimpArgs false
set_option linter.deprecated false
set_option maxRecDepth 100000
namespace Go.Proofs.YtbcgpkgdbepfbaaGreatDoor
open Go.Sx

def tabL : List (Nat × Nat × SC × List SR) := [
  (3, 22, sc3, rs3),
  (4, 141, sc4, rs4),
  (5, 151, sc5, rs5),
  (6, 25, sc6, rs6),
  (7, 85, sc7, rs7),
  (8, 79, sc8, rs8),
  (9, 95, sc9, rs9),
  (10, 9, sc10, rs10),
  (11, 25, sc11, rs11),
  (12, 24, sc12, rs12),
  (13, 38, sc13, rs13),
  (14, 6, sc14, rs14),
  (15, 5, sc15, rs15),
  (16, 5, sc16, rs16),
  (17, 54, sc17, rs17),
  (18, 21, sc18, rs18),
  (19, 8, sc19, rs19),
  (20, 6, sc20, rs20),
  (21, 10, sc21, rs21),
  (22, 20, sc22, rs22),
  (23, 19, sc23, rs23),
  (24, 11, sc24, rs24),
  (25, 5, sc25, rs25),
  (26, 18, sc26, rs26),
  (27, 11, sc27, rs27),
  (28, 30, sc28, rs28),
  (29, 9, sc29, rs29),
  (30, 31, sc30, rs30),
  (31, 9, sc31, rs31),
  (32, 8, sc32, rs32),
  (33, 26, sc33, rs33),
  (34, 25, sc34, rs34),
  (35, 9, sc35, rs35),
  (36, 17, sc36, rs36),
  (37, 9, sc37, rs37),
  (38, 41, sc38, rs38),
  (39, 11, sc39, rs39),
  (40, 9, sc40, rs40),
  (41, 18, sc41, rs41),
  (42, 9, sc42, rs42),
  (43, 9, sc43, rs43),
  (44, 9, sc44, rs44),
  (45, 29, sc45, rs45),
  (46, 20, sc46, rs46),
  (47, 17, sc47, rs47),
  (48, 18, sc48, rs48),
  (50, 39, sc50, rs50),
  (51, 13, sc51, rs51),
  (52, 6, sc52, rs52),
  (53, 47, sc53, rs53),
  (54, 4, sc54, rs54),
  (55, 11, sc55, rs55),
  (56, 61, sc56, rs56),
  (57, 16, sc57, rs57),
  (58, 6, sc58, rs58),
  (59, 89, sc59, rs59),
  (60, 53, sc60, rs60),
  (61, 27, sc61, rs61),
  (62, 70, sc62, rs62),
  (63, 37, sc63, rs63),
  (64, 17, sc64, rs64),
  (65, 15, sc65, rs65),
  (66, 6, sc66, rs66),
  (67, 19, sc67, rs67),
  (70, 22, sc70, rs70),
  (71, 21, sc71, rs71),
  (72, 14, sc72, rs72),
  (73, 14, sc73, rs73),
  (74, 14, sc74, rs74),
  (75, 22, sc75, rs75),
  (76, 16, sc76, rs76),
  (77, 6, sc77, rs77),
  (78, 23, sc78, rs78),
  (79, 134, sc79, rs79),
  (80, 8, sc80, rs80),
  (81, 11, sc81, rs81),
  (82, 21, sc82, rs82),
  (83, 11, sc83, rs83),
  (86, 28, sc86, rs86),
  (87, 17, sc87, rs87),
  (91, 18, sc91, rs91),
  (94, 49, sc94, rs94),
  (95, 56, sc95, rs95),
  (96, 65, sc96, rs96),
  (97, 57, sc97, rs97),
  (98, 32, sc98, rs98),
  (99, 133, sc99, rs99),
  (100, 17, sc100, rs100),
  (101, 84, sc101, rs101),
  (102, 168, sc102, rs102),
  (103, 19, sc103, rs103),
  (104, 25, sc104, rs104),
  (109, 58, sc109, rs109),
  (114, 76, sc114, rs114),
  (115, 7, sc115, rs115),
  (116, 33, sc116, rs116),
  (117, 15, sc117, rs117),
  (118, 36, sc118, rs118),
  (119, 6, sc119, rs119),
  (123, 9, sc123, rs123),
  (130, 28, sc130, rs130),
  (144, 8, sc144, rs144),
  (145, 14, sc145, rs145),
  (146, 14, sc146, rs146)]

theorem tabL_ok : ∀ x ∈ tabL, FnC Tryz.prog x.1 x.2.1 x.2.2.1 x.2.2.2 ∧ pureF Tryz.prog x.1 = true := by
  intro x hx
  simp only [tabL, List.mem_cons, List.not_mem_nil, or_false] at hx
  rcases hx with rfl | rfl | rfl | rfl | rfl | rfl | rfl | rfl | rfl | rfl | rfl | rfl | rfl | rfl | rfl | rfl | rfl | rfl | rfl | rfl | rfl | rfl | rfl | rfl | rfl | rfl | rfl | rfl | rfl | rfl | rfl | rfl | rfl | rfl | rfl | rfl | rfl | rfl | rfl | rfl | rfl | rfl | rfl | rfl | rfl | rfl | rfl | rfl | rfl | rfl | rfl | rfl | rfl | rfl | rfl | rfl | rfl | rfl | rfl | rfl | rfl | rfl | rfl | rfl | rfl | rfl | rfl | rfl | rfl | rfl | rfl | rfl | rfl | rfl | rfl | rfl | rfl | rfl | rfl | rfl | rfl | rfl | rfl | rfl | rfl | rfl | rfl | rfl | rfl | rfl | rfl | rfl | rfl | rfl | rfl | rfl | rfl | rfl | rfl | rfl | rfl | rfl | rfl | rfl
  · exact fp3
  · exact fp4
  · exact fp5
  · exact fp6
  · exact fp7
  · exact fp8
  · exact fp9
  · exact fp10
  · exact fp11
  · exact fp12
  · exact fp13
  · exact fp14
  · exact fp15
  · exact fp16
  · exact fp17
  · exact fp18
  · exact fp19
  · exact fp20
  · exact fp21
  · exact fp22
  · exact fp23
  · exact fp24
  · exact fp25
  · exact fp26
  · exact fp27
  · exact fp28
  · exact fp29
  · exact fp30
  · exact fp31
  · exact fp32
  · exact fp33
  · exact fp34
  · exact fp35
  · exact fp36
  · exact fp37
  · exact fp38
  · exact fp39
  · exact fp40
  · exact fp41
  · exact fp42
  · exact fp43
  · exact fp44
  · exact fp45
  · exact fp46
  · exact fp47
  · exact fp48
  · exact fp50
  · exact fp51
  · exact fp52
  · exact fp53
  · exact fp54
  · exact fp55
  · exact fp56
  · exact fp57
  · exact fp58
  · exact fp59
  · exact fp60
  · exact fp61
  · exact fp62
  · exact fp63
  · exact fp64
  · exact fp65
  · exact fp66
  · exact fp67
  · exact fp70
  · exact fp71
  · exact fp72
  · exact fp73
  · exact fp74
  · exact fp75
  · exact fp76
  · exact fp77
  · exact fp78
  · exact fp79
  · exact fp80
  · exact fp81
  · exact fp82
  · exact fp83
  · exact fp86
  · exact fp87
  · exact fp91
  · exact fp94
  · exact fp95
  · exact fp96
  · exact fp97
  · exact fp98
  · exact fp99
  · exact fp100
  · exact fp101
  · exact fp102
  · exact fp103
  · exact fp104
  · exact fp109
  · exact fp114
  · exact fp115
  · exact fp116
  · exact fp117
  · exact fp118
  · exact fp119
  · exact fp123
  · exact fp130
  · exact fp144
  · exact fp145
  · exact fp146

end Go.Proofs.YtbcgpkgdbepfbaaGreatDoor
