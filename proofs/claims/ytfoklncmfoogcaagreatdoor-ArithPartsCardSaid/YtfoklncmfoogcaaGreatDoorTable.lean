/- The table of the short texts. -/
import Derived.Test.YtfoklncmfoogcaaGreatDoorTexts
set_option linter.unusedSectionVars false
set_option linter.unusedVariables false
set_option linter.unusedSimpArgs false
set_option linter.deprecated false
set_option maxRecDepth 100000
namespace Go.Proofs.YtfoklncmfoogcaaGreatDoor
open Go.Sx

def tabL : List (Nat × Nat × SC × List SR) := [
  (7, 135, sc7, rs7),
  (8, 198, sc8, rs8),
  (10, 34, sc10, rs10),
  (13, 11, sc13, rs13),
  (15, 31, sc15, rs15),
  (16, 8, sc16, rs16),
  (17, 9, sc17, rs17),
  (18, 5, sc18, rs18),
  (19, 9, sc19, rs19),
  (20, 10, sc20, rs20),
  (21, 5, sc21, rs21),
  (23, 11, sc23, rs23),
  (24, 54, sc24, rs24),
  (25, 28, sc25, rs25),
  (26, 8, sc26, rs26),
  (27, 5, sc27, rs27),
  (28, 31, sc28, rs28),
  (29, 27, sc29, rs29),
  (30, 19, sc30, rs30),
  (32, 9, sc32, rs32),
  (33, 6, sc33, rs33),
  (34, 9, sc34, rs34),
  (35, 5, sc35, rs35),
  (36, 39, sc36, rs36),
  (38, 29, sc38, rs38),
  (39, 10, sc39, rs39),
  (40, 49, sc40, rs40),
  (41, 24, sc41, rs41),
  (42, 20, sc42, rs42),
  (43, 13, sc43, rs43),
  (44, 6, sc44, rs44),
  (45, 47, sc45, rs45),
  (46, 6, sc46, rs46),
  (47, 16, sc47, rs47),
  (48, 20, sc48, rs48),
  (49, 17, sc49, rs49),
  (50, 18, sc50, rs50),
  (52, 39, sc52, rs52),
  (53, 11, sc53, rs53),
  (54, 19, sc54, rs54),
  (55, 6, sc55, rs55),
  (56, 6, sc56, rs56),
  (57, 6, sc57, rs57),
  (58, 6, sc58, rs58),
  (59, 6, sc59, rs59),
  (60, 37, sc60, rs60),
  (61, 21, sc61, rs61),
  (62, 56, sc62, rs62),
  (63, 36, sc63, rs63),
  (64, 4, sc64, rs64),
  (66, 22, sc66, rs66),
  (67, 21, sc67, rs67),
  (68, 14, sc68, rs68),
  (69, 9, sc69, rs69),
  (70, 14, sc70, rs70),
  (71, 24, sc71, rs71),
  (72, 14, sc72, rs72),
  (73, 22, sc73, rs73),
  (74, 16, sc74, rs74),
  (75, 6, sc75, rs75),
  (76, 19, sc76, rs76),
  (78, 9, sc78, rs78),
  (79, 25, sc79, rs79),
  (80, 25, sc80, rs80),
  (81, 8, sc81, rs81),
  (82, 5, sc82, rs82),
  (83, 4, sc83, rs83),
  (84, 11, sc84, rs84),
  (85, 9, sc85, rs85),
  (86, 6, sc86, rs86),
  (87, 4, sc87, rs87),
  (88, 8, sc88, rs88),
  (89, 6, sc89, rs89),
  (90, 23, sc90, rs90),
  (92, 25, sc92, rs92),
  (93, 9, sc93, rs93),
  (94, 11, sc94, rs94),
  (95, 9, sc95, rs95),
  (96, 18, sc96, rs96),
  (97, 9, sc97, rs97),
  (99, 19, sc99, rs99),
  (100, 11, sc100, rs100),
  (101, 35, sc101, rs101),
  (102, 14, sc102, rs102),
  (103, 66, sc103, rs103),
  (104, 19, sc104, rs104),
  (105, 11, sc105, rs105),
  (106, 35, sc106, rs106),
  (108, 37, sc108, rs108),
  (109, 17, sc109, rs109),
  (110, 15, sc110, rs110),
  (111, 148, sc111, rs111),
  (112, 8, sc112, rs112),
  (117, 17, sc117, rs117),
  (121, 18, sc121, rs121),
  (122, 53, sc122, rs122),
  (123, 60, sc123, rs123),
  (124, 67, sc124, rs124),
  (125, 63, sc125, rs125),
  (126, 34, sc126, rs126),
  (127, 141, sc127, rs127),
  (128, 90, sc128, rs128),
  (129, 178, sc129, rs129),
  (130, 19, sc130, rs130),
  (131, 25, sc131, rs131),
  (137, 82, sc137, rs137),
  (138, 7, sc138, rs138),
  (139, 33, sc139, rs139),
  (140, 18, sc140, rs140),
  (141, 41, sc141, rs141),
  (144, 32, sc144, rs144)]

theorem tabL_ok : ∀ x ∈ tabL, FnC Tryz.prog x.1 x.2.1 x.2.2.1 x.2.2.2 ∧ pureF Tryz.prog x.1 = true := by
  intro x hx
  simp only [tabL, List.mem_cons, List.not_mem_nil, or_false] at hx
  rcases hx with rfl | rfl | rfl | rfl | rfl | rfl | rfl | rfl | rfl | rfl | rfl | rfl | rfl | rfl | rfl | rfl | rfl | rfl | rfl | rfl | rfl | rfl | rfl | rfl | rfl | rfl | rfl | rfl | rfl | rfl | rfl | rfl | rfl | rfl | rfl | rfl | rfl | rfl | rfl | rfl | rfl | rfl | rfl | rfl | rfl | rfl | rfl | rfl | rfl | rfl | rfl | rfl | rfl | rfl | rfl | rfl | rfl | rfl | rfl | rfl | rfl | rfl | rfl | rfl | rfl | rfl | rfl | rfl | rfl | rfl | rfl | rfl | rfl | rfl | rfl | rfl | rfl | rfl | rfl | rfl | rfl | rfl | rfl | rfl | rfl | rfl | rfl | rfl | rfl | rfl | rfl | rfl | rfl | rfl | rfl | rfl | rfl | rfl | rfl | rfl | rfl | rfl | rfl | rfl | rfl | rfl | rfl | rfl | rfl | rfl | rfl
  · exact fp7
  · exact fp8
  · exact fp10
  · exact fp13
  · exact fp15
  · exact fp16
  · exact fp17
  · exact fp18
  · exact fp19
  · exact fp20
  · exact fp21
  · exact fp23
  · exact fp24
  · exact fp25
  · exact fp26
  · exact fp27
  · exact fp28
  · exact fp29
  · exact fp30
  · exact fp32
  · exact fp33
  · exact fp34
  · exact fp35
  · exact fp36
  · exact fp38
  · exact fp39
  · exact fp40
  · exact fp41
  · exact fp42
  · exact fp43
  · exact fp44
  · exact fp45
  · exact fp46
  · exact fp47
  · exact fp48
  · exact fp49
  · exact fp50
  · exact fp52
  · exact fp53
  · exact fp54
  · exact fp55
  · exact fp56
  · exact fp57
  · exact fp58
  · exact fp59
  · exact fp60
  · exact fp61
  · exact fp62
  · exact fp63
  · exact fp64
  · exact fp66
  · exact fp67
  · exact fp68
  · exact fp69
  · exact fp70
  · exact fp71
  · exact fp72
  · exact fp73
  · exact fp74
  · exact fp75
  · exact fp76
  · exact fp78
  · exact fp79
  · exact fp80
  · exact fp81
  · exact fp82
  · exact fp83
  · exact fp84
  · exact fp85
  · exact fp86
  · exact fp87
  · exact fp88
  · exact fp89
  · exact fp90
  · exact fp92
  · exact fp93
  · exact fp94
  · exact fp95
  · exact fp96
  · exact fp97
  · exact fp99
  · exact fp100
  · exact fp101
  · exact fp102
  · exact fp103
  · exact fp104
  · exact fp105
  · exact fp106
  · exact fp108
  · exact fp109
  · exact fp110
  · exact fp111
  · exact fp112
  · exact fp117
  · exact fp121
  · exact fp122
  · exact fp123
  · exact fp124
  · exact fp125
  · exact fp126
  · exact fp127
  · exact fp128
  · exact fp129
  · exact fp130
  · exact fp131
  · exact fp137
  · exact fp138
  · exact fp139
  · exact fp140
  · exact fp141
  · exact fp144

end Go.Proofs.YtfoklncmfoogcaaGreatDoor
