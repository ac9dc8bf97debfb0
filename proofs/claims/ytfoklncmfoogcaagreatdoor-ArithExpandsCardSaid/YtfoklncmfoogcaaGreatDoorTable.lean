/- The table of the short texts. -/
import Derived.Test.YtfoklncmfoogcaaGreatDoorTexts
set_option linter.unusedSectionVars false
set_option linter.unusedVariables false
set_option linter.unusedSimpArgs false
set_option linter.deprecated false
set_option maxRecDepth 100000
namespace Go.Proofs.YtfoklncmfoogcaaGreatDoor
open Go.Sx

def tabL:List (Nat × Nat × SC × List SR):=[
 (8,198,sc8,rs8),
 (10,34,sc10,rs10),
 (13,11,sc13,rs13),
 (15,31,sc15,rs15),
 (16,8,sc16,rs16),
 (17,9,sc17,rs17),
 (18,5,sc18,rs18),
 (19,9,sc19,rs19),
 (20,10,sc20,rs20),
 (21,5,sc21,rs21),
 (22,146,sc22,rs22),
 (23,11,sc23,rs23),
 (24,54,sc24,rs24),
 (25,28,sc25,rs25),
 (26,8,sc26,rs26),
 (27,5,sc27,rs27),
 (28,31,sc28,rs28),
 (29,27,sc29,rs29),
 (30,19,sc30,rs30),
 (32,9,sc32,rs32),
 (33,6,sc33,rs33),
 (34,9,sc34,rs34),
 (35,5,sc35,rs35),
 (36,39,sc36,rs36),
 (38,29,sc38,rs38),
 (39,10,sc39,rs39),
 (40,49,sc40,rs40),
 (41,24,sc41,rs41),
 (42,20,sc42,rs42),
 (43,13,sc43,rs43),
 (44,6,sc44,rs44),
 (45,47,sc45,rs45),
 (46,6,sc46,rs46),
 (47,16,sc47,rs47),
 (48,20,sc48,rs48),
 (49,17,sc49,rs49),
 (50,18,sc50,rs50),
 (52,39,sc52,rs52),
 (53,11,sc53,rs53),
 (54,19,sc54,rs54),
 (55,6,sc55,rs55),
 (56,6,sc56,rs56),
 (57,6,sc57,rs57),
 (58,6,sc58,rs58),
 (59,6,sc59,rs59),
 (60,37,sc60,rs60),
 (61,21,sc61,rs61),
 (62,56,sc62,rs62),
 (63,36,sc63,rs63),
 (64,4,sc64,rs64),
 (66,22,sc66,rs66),
 (67,21,sc67,rs67),
 (68,14,sc68,rs68),
 (69,9,sc69,rs69),
 (70,14,sc70,rs70),
 (71,24,sc71,rs71),
 (72,14,sc72,rs72),
 (73,22,sc73,rs73),
 (74,16,sc74,rs74),
 (75,6,sc75,rs75),
 (76,19,sc76,rs76),
 (78,9,sc78,rs78),
 (79,25,sc79,rs79),
 (80,25,sc80,rs80),
 (81,8,sc81,rs81),
 (82,5,sc82,rs82),
 (83,4,sc83,rs83),
 (84,11,sc84,rs84),
 (85,9,sc85,rs85),
 (86,6,sc86,rs86),
 (87,4,sc87,rs87),
 (88,8,sc88,rs88),
 (89,6,sc89,rs89),
 (90,23,sc90,rs90),
 (92,25,sc92,rs92),
 (93,9,sc93,rs93),
 (94,11,sc94,rs94),
 (95,9,sc95,rs95),
 (96,18,sc96,rs96),
 (97,9,sc97,rs97),
 (99,19,sc99,rs99),
 (100,11,sc100,rs100),
 (101,35,sc101,rs101),
 (102,14,sc102,rs102),
 (103,66,sc103,rs103),
 (104,19,sc104,rs104),
 (105,11,sc105,rs105),
 (106,35,sc106,rs106),
 (108,37,sc108,rs108),
 (109,17,sc109,rs109),
 (110,15,sc110,rs110),
 (111,148,sc111,rs111),
 (112,8,sc112,rs112),
 (117,17,sc117,rs117),
 (121,18,sc121,rs121),
 (122,53,sc122,rs122),
 (130,19,sc130,rs130),
 (131,25,sc131,rs131)]

def allT:List (Nat × Nat × SC × List SR)->Prop
 | []=>True
 | x::r=>(FnC Tryz.prog x.1 x.2.1 x.2.2.1 x.2.2.2/\pureF Tryz.prog x.1=true)/\allT r
theorem allT_mem: ∀ {l:List (Nat × Nat × SC × List SR)},allT l-> ∀ x∈l,FnC Tryz.prog x.1 x.2.1 x.2.2.1 x.2.2.2/\pureF Tryz.prog x.1=true
 | [],_,x,h=>by cases h
 | y::r,h,x,hx=>by
  rcases List.mem_cons.1 hx with rfl | hx
  ·exact h.1
  ·exact allT_mem h.2 x hx
theorem tabL_all:allT tabL:=⟨fp8,fp10,fp13,fp15,fp16,fp17,fp18,fp19,fp20,fp21,fp22,fp23,fp24,fp25,fp26,fp27,fp28,fp29,fp30,fp32,fp33,fp34,fp35,fp36,fp38,fp39,fp40,fp41,fp42,fp43,fp44,fp45,fp46,fp47,fp48,fp49,fp50,fp52,fp53,fp54,fp55,fp56,fp57,fp58,fp59,fp60,fp61,fp62,fp63,fp64,fp66,fp67,fp68,fp69,fp70,fp71,fp72,fp73,fp74,fp75,fp76,fp78,fp79,fp80,fp81,fp82,fp83,fp84,fp85,fp86,fp87,fp88,fp89,fp90,fp92,fp93,fp94,fp95,fp96,fp97,fp99,fp100,fp101,fp102,fp103,fp104,fp105,fp106,fp108,fp109,fp110,fp111,fp112,fp117,fp121,fp122,fp130,fp131,trivial⟩
theorem tabL_ok: ∀ x∈tabL,FnC Tryz.prog x.1 x.2.1 x.2.2.1 x.2.2.2/\pureF Tryz.prog x.1=true:=allT_mem tabL_all

end Go.Proofs.YtfoklncmfoogcaaGreatDoor
