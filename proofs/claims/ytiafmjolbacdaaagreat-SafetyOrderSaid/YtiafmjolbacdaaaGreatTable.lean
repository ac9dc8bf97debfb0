/- The table of the short texts. -/
import Derived.Test.YtiafmjolbacdaaaGreatTexts
set_option linter.unusedSectionVars false
set_option linter.unusedVariables false
set_option linter.unusedSimpArgs false
set_option linter.deprecated false
set_option maxRecDepth 100000
namespace Go.Proofs.YtiafmjolbacdaaaGreat
open Go.Sx

def tabL : List (Nat × Nat × SC × List SR) := [
  (4, 131, sc4, rs4),
  (7, 44, sc7, rs7),
  (8, 51, sc8, rs8),
  (9, 15, sc9, rs9),
  (10, 18, sc10, rs10),
  (11, 26, sc11, rs11),
  (12, 148, sc12, rs12),
  (13, 16, sc13, rs13),
  (14, 20, sc14, rs14),
  (15, 6, sc15, rs15),
  (16, 6, sc16, rs16),
  (21, 13, sc21, rs21),
  (22, 11, sc22, rs22),
  (23, 11, sc23, rs23),
  (24, 10, sc24, rs24),
  (25, 4, sc25, rs25),
  (26, 14, sc26, rs26),
  (27, 6, sc27, rs27),
  (28, 29, sc28, rs28),
  (29, 88, sc29, rs29),
  (30, 75, sc30, rs30),
  (34, 42, sc34, rs34),
  (35, 16, sc35, rs35),
  (37, 25, sc37, rs37),
  (38, 9, sc38, rs38),
  (39, 4, sc39, rs39),
  (40, 20, sc40, rs40),
  (41, 27, sc41, rs41),
  (42, 4, sc42, rs42),
  (43, 19, sc43, rs43),
  (51, 19, sc51, rs51),
  (52, 34, sc52, rs52),
  (53, 40, sc53, rs53),
  (55, 40, sc55, rs55),
  (56, 5, sc56, rs56),
  (57, 11, sc57, rs57),
  (58, 14, sc58, rs58),
  (59, 26, sc59, rs59),
  (60, 19, sc60, rs60),
  (61, 14, sc61, rs61),
  (65, 176, sc65, rs65),
  (66, 16, sc66, rs66),
  (67, 17, sc67, rs67),
  (68, 66, sc68, rs68),
  (69, 14, sc69, rs69),
  (70, 19, sc70, rs70),
  (71, 85, sc71, rs71),
  (72, 34, sc72, rs72),
  (73, 21, sc73, rs73),
  (74, 13, sc74, rs74),
  (76, 8, sc76, rs76),
  (77, 4, sc77, rs77),
  (78, 61, sc78, rs78),
  (82, 17, sc82, rs82),
  (83, 17, sc83, rs83),
  (84, 9, sc84, rs84),
  (85, 9, sc85, rs85),
  (86, 30, sc86, rs86),
  (87, 53, sc87, rs87),
  (88, 35, sc88, rs88),
  (89, 15, sc89, rs89),
  (90, 65, sc90, rs90),
  (91, 77, sc91, rs91),
  (92, 7, sc92, rs92),
  (93, 16, sc93, rs93),
  (94, 17, sc94, rs94),
  (95, 44, sc95, rs95),
  (96, 14, sc96, rs96),
  (97, 16, sc97, rs97),
  (98, 20, sc98, rs98),
  (99, 10, sc99, rs99),
  (106, 17, sc106, rs106),
  (109, 19, sc109, rs109),
  (110, 25, sc110, rs110),
  (111, 6, sc111, rs111),
  (112, 23, sc112, rs112),
  (113, 25, sc113, rs113),
  (114, 38, sc114, rs114),
  (115, 21, sc115, rs115),
  (116, 21, sc116, rs116),
  (117, 30, sc117, rs117),
  (118, 22, sc118, rs118),
  (119, 30, sc119, rs119),
  (120, 9, sc120, rs120),
  (121, 9, sc121, rs121),
  (127, 6, sc127, rs127),
  (128, 17, sc128, rs128),
  (129, 9, sc129, rs129),
  (130, 41, sc130, rs130),
  (131, 9, sc131, rs131),
  (132, 9, sc132, rs132),
  (133, 34, sc133, rs133),
  (134, 8, sc134, rs134),
  (135, 27, sc135, rs135),
  (136, 19, sc136, rs136),
  (138, 54, sc138, rs138),
  (139, 20, sc139, rs139)]

def allT : List (Nat × Nat × SC × List SR) → Prop
  | [] => True
  | x :: r => (FnC Tryz.prog x.1 x.2.1 x.2.2.1 x.2.2.2 ∧ pureF Tryz.prog x.1 = true) ∧ allT r
theorem allT_mem : ∀ {l : List (Nat × Nat × SC × List SR)}, allT l → ∀ x ∈ l, FnC Tryz.prog x.1 x.2.1 x.2.2.1 x.2.2.2 ∧ pureF Tryz.prog x.1 = true
  | [], _, x, h => by cases h
  | y :: r, h, x, hx => by
    rcases List.mem_cons.1 hx with rfl | hx
    · exact h.1
    · exact allT_mem h.2 x hx
theorem tabL_all : allT tabL := ⟨fp4, fp7, fp8, fp9, fp10, fp11, fp12, fp13, fp14, fp15, fp16, fp21, fp22, fp23, fp24, fp25, fp26, fp27, fp28, fp29, fp30, fp34, fp35, fp37, fp38, fp39, fp40, fp41, fp42, fp43, fp51, fp52, fp53, fp55, fp56, fp57, fp58, fp59, fp60, fp61, fp65, fp66, fp67, fp68, fp69, fp70, fp71, fp72, fp73, fp74, fp76, fp77, fp78, fp82, fp83, fp84, fp85, fp86, fp87, fp88, fp89, fp90, fp91, fp92, fp93, fp94, fp95, fp96, fp97, fp98, fp99, fp106, fp109, fp110, fp111, fp112, fp113, fp114, fp115, fp116, fp117, fp118, fp119, fp120, fp121, fp127, fp128, fp129, fp130, fp131, fp132, fp133, fp134, fp135, fp136, fp138, fp139, trivial⟩
theorem tabL_ok : ∀ x ∈ tabL, FnC Tryz.prog x.1 x.2.1 x.2.2.1 x.2.2.2 ∧ pureF Tryz.prog x.1 = true := allT_mem tabL_all

end Go.Proofs.YtiafmjolbacdaaaGreat
