/- The short texts of functions of the program,and that they are theirs (printed by a program of mine). -/
import Derived.Test.YtfoklncmfoogcaaGreatDoorBase
set_option linter.unusedSectionVars false
set_option linter.unusedVariables false
set_option linter.unusedSimpArgs false
set_option linter.deprecated false
set_option maxRecDepth 100000
namespace Go.Proofs.YtfoklncmfoogcaaGreatDoor
open Go.Sx
open Go.Sx (SC.seq)
abbrev PF (f n:Nat) (s:SC) (r:List SR):Prop:=FnC Tryz.prog f n s r/\pureF Tryz.prog f=true
abbrev F0:Nat->Bool:=fun _=>false
abbrev T1:Nat->Bool:=fun _=>true
abbrev N0 {α:Type}:Nat->List α:=fun _=>[]
abbrev mv (d a:Nat):SOp:=so d .mv [xt a]
abbrev fa (d o a:Nat):SOp:=so d (.faddr o) [xt a]
abbrev ld (d z a:Nat):SOp:=so d (.load false z) [xt a]
abbrev lt (d z a:Nat):SOp:=so d (.load true z) [xt a]
abbrev ia (d z a b:Nat):SOp:=so d (.iaddr z) [xt a,xt b]
abbrev bi (d:Nat) (o:Go.BinOp) (a b:Nat):SOp:=so d (.bin o) [xt a,xt b]
abbrev bc (d:Nat) (o:Go.BinOp) (a:Nat) (n:Int):SOp:=so d (.bin o) [xt a,xc (.int .i64 n)]
abbrev ln (d a:Nat):SOp:=so d (.len false) [xt a]
abbrev rg (l:List SOp) (b:SC):SC:= .seq (.reg l) b

/- ostler/ostlerlaw02.awake -/
def sc8:SC:=(rg [so 0 .mv [xc (.bool false)]] (rg [so 24 (.bslice true 1 2 3 [(.int .i64 0),(.int .i64 0)] [(0,1),(1,1)]) [xc (.int .i64 7),xc (.int .i64 (-2))],.cd (some 25) none (xc (.func (.func 10) [] [])) [xc (.str [47]),xt 24],mv 23 25,so 26 (.extract 0) [xt 23],so 27 (.extract 1) [xt 23],mv 1 26,mv 2 27] (rg [so 29 (.bslice true 1 2 3 [(.int .i64 0),(.int .i64 0)] [(0,1),(1,1)]) [xc (.int .i64 7),xc (.int .i64 (-2))],.cd (some 30) none (xc (.func (.func 10) [] [])) [xc (.str [92]),xt 29],mv 28 30,so 31 (.extract 0) [xt 28],so 32 (.extract 1) [xt 28],mv 3 31,mv 4 32] (rg [so 34 (.bslice true 1 2 3 [(.int .i64 0),(.int .i64 0)] [(0,1),(1,1)]) [xc (.int .i64 (-7)),xc (.int .i64 2)],.cd (some 35) none (xc (.func (.func 10) [] [])) [xc (.str [92]),xt 34],mv 33 35,so 36 (.extract 0) [xt 33],so 37 (.extract 1) [xt 33],mv 5 36,mv 6 37] (.seq (rg [mv 38 1,bc 39 .neq 38 (-3),mv 40 39,.a (some 41) (some (40,false)) .mv [xt 2],.a (some 42) (some (40,false)) (.un .not) [xt 41],so 43 .pick [xt 40,xc (.bool true),xt 42],mv 44 43,.a (some 45) (some (44,false)) .mv [xt 3],.a (some 46) (some (44,false)) (.bin .neq) [xt 45,xc (.int .i64 1)],so 47 .pick [xt 44,xc (.bool true),xt 46],mv 48 47,.a (some 49) (some (48,false)) .mv [xt 4],.a (some 50) (some (48,false)) (.un .not) [xt 49],so 51 .pick [xt 48,xc (.bool true),xt 50],mv 52 51,.a (some 53) (some (52,false)) .mv [xt 5],.a (some 54) (some (52,false)) (.bin .neq) [xt 53,xc (.int .i64 (-1))],so 55 .pick [xt 52,xc (.bool true),xt 54],mv 56 55,.a (some 57) (some (56,false)) .mv [xt 6],.a (some 58) (some (56,false)) (.un .not) [xt 57],so 59 .pick [xt 56,xc (.bool true),xt 58]] (.cond (xt 59) (rg [so 0 .mv [xc (.bool false)]] .ret) .skip)) (rg [so 61 (.call 18) [xc (.int .i64 2)],so 62 (.call 18) [xc (.int .i64 3)],so 63 (.bslice true 4 2 33 [(.int .u8 0),(.int .i64 0),(.str []),(.slice [] []),(.int .u8 0),(.int .i64 0),(.str []),(.slice [] [])] [(0,4),(4,4)]) [xt 61,xt 62],so 64 (.call 26) [xc (.str [42]),xt 63],so 65 (.call 18) [xc (.int .i64 1)],so 66 (.bslice true 4 2 33 [(.int .u8 0),(.int .i64 0),(.str []),(.slice [] []),(.int .u8 0),(.int .i64 0),(.str []),(.slice [] [])] [(0,4),(4,4)]) [xt 64,xt 65],so 67 (.call 26) [xc (.str [45]),xt 66],so 68 (.call 27) [xc (.str [97])],so 69 (.bslice true 4 2 33 [(.int .u8 0),(.int .i64 0),(.str []),(.slice [] []),(.int .u8 0),(.int .i64 0),(.str []),(.slice [] [])] [(0,4),(4,4)]) [xt 67,xt 68],so 70 (.call 16) [xc (.str [102]),xt 69],so 71 (.call 25) [xt 70],mv 60 71,so 72 (.extract 0) [xt 60],so 73 (.extract 1) [xt 60],so 7 (.alloc [(.int .u8 0),(.int .i64 0),(.str []),.nils]) [],.st none (.c 4) (xt 7) (xt 72),mv 8 73] (rg [so 75 (.call 27) [xc (.str [97])],so 76 (.call 18) [xc (.int .i64 1)],so 77 (.bslice true 4 2 33 [(.int .u8 0),(.int .i64 0),(.str []),(.slice [] []),(.int .u8 0),(.int .i64 0),(.str []),(.slice [] [])] [(0,4),(4,4)]) [xt 75,xt 76],so 78 (.call 26) [xc (.str [43]),xt 77],so 79 (.call 25) [xt 78],mv 74 79,so 80 (.extract 0) [xt 74],so 81 (.extract 1) [xt 74],so 9 (.alloc [(.int .u8 0),(.int .i64 0),(.str []),.nils]) [],.st none (.c 4) (xt 9) (xt 80),mv 10 81] (rg [so 83 (.call 18) [xc (.int .i64 1)],so 84 (.call 18) [xc (.int .i64 0)],so 85 (.bslice true 4 2 33 [(.int .u8 0),(.int .i64 0),(.str []),(.slice [] []),(.int .u8 0),(.int .i64 0),(.str []),(.slice [] [])] [(0,4),(4,4)]) [xt 83,xt 84],so 86 (.call 26) [xc (.str [47]),xt 85],so 87 (.call 25) [xt 86],mv 82 87,so 88 (.extract 0) [xt 82],so 89 (.extract 1) [xt 82],so 11 (.alloc [(.int .u8 0),(.int .i64 0),(.str []),.nils]) [],.st none (.c 4) (xt 11) (xt 88),mv 12 89] (rg [so 91 (.call 18) [xc (.int .i64 2147483647)],so 92 (.call 18) [xc (.int .i64 1)],so 93 (.bslice true 4 2 33 [(.int .u8 0),(.int .i64 0),(.str []),(.slice [] []),(.int .u8 0),(.int .i64 0),(.str []),(.slice [] [])] [(0,4),(4,4)]) [xt 91,xt 92],so 94 (.call 26) [xc (.str [43]),xt 93],so 95 (.call 25) [xt 94],mv 90 95,so 96 (.extract 0) [xt 90],so 97 (.extract 1) [xt 90],so 13 (.alloc [(.int .u8 0),(.int .i64 0),(.str []),.nils]) [],.st none (.c 4) (xt 13) (xt 96),mv 14 97] (.seq (.seq (.drw [0,1,3,7,7,23,55,119,255,511,1023,2047,4095,8191,16383,32767,65535,131071,262143,524287] [mv 98 8,so 99 (.un .not) [xt 98],mv 100 99,.a (some 101) (some (100,false)) (.load true 4) [xt 7],.a (some 102) (some (100,false)) (.call 18) [xc (.int .i64 5)],.a (some 103) (some (100,false)) (.call 27) [xc (.str [97])],.a (some 104) (some (100,false)) (.bslice true 4 2 33 [(.int .u8 0),(.int .i64 0),(.str []),(.slice [] []),(.int .u8 0),(.int .i64 0),(.str []),(.slice [] [])] [(0,4),(4,4)]) [xt 102,xt 103],.a (some 105) (some (100,false)) (.call 16) [xc (.str [102]),xt 104],.a (some 106) (some (100,false)) (.call 28) [xt 101,xt 105],.a (some 107) (some (100,false)) (.un .not) [xt 106],so 108 .pick [xt 100,xc (.bool true),xt 107],mv 109 108,.a (some 110) (some (109,false)) .mv [xt 10],so 111 .pick [xt 109,xc (.bool true),xt 110],mv 112 111,.a (some 113) (some (112,false)) .mv [xt 12],so 114 .pick [xt 112,xc (.bool true),xt 113],mv 115 114,.a (some 116) (some (115,false)) .mv [xt 14],so 117 .pick [xt 115,xc (.bool true),xt 116]]) (.cond (xt 117) (rg [so 0 .mv [xc (.bool false)]] .ret) .skip)) (rg [so 119 (.call 18) [xc (.int .i64 1)],so 120 (.call 18) [xc (.int .i64 2)],so 121 (.call 17) [xt 119,xt 120],so 122 (.call 18) [xc (.int .i64 1)],so 123 (.call 18) [xc (.int .i64 3)],so 124 (.call 17) [xt 122,xt 123],so 125 (.call 18) [xc (.int .i64 2)],so 126 (.bslice true 4 2 33 [(.int .u8 0),(.int .i64 0),(.str []),(.slice [] []),(.int .u8 0),(.int .i64 0),(.str []),(.slice [] [])] [(0,4),(4,4)]) [xt 124,xt 125],so 127 (.call 26) [xc (.str [42]),xt 126],so 128 (.bslice true 4 2 33 [(.int .u8 0),(.int .i64 0),(.str []),(.slice [] []),(.int .u8 0),(.int .i64 0),(.str []),(.slice [] [])] [(0,4),(4,4)]) [xt 121,xt 127],so 129 (.call 16) [xc (.str [102]),xt 128],so 130 (.call 15) [xt 129],mv 118 130,so 131 (.extract 0) [xt 118],so 132 (.extract 1) [xt 118],mv 15 131,mv 16 132] (rg [so 134 (.call 18) [xc (.int .i64 3)],so 135 (.call 18) [xc (.int .i64 1)],so 136 (.call 17) [xt 134,xt 135],so 137 (.call 15) [xt 136],mv 133 137,so 138 (.extract 0) [xt 133],so 139 (.extract 1) [xt 133],mv 17 138,mv 18 139] (rg [so 141 (.call 18) [xc (.int .i64 1)],so 142 (.call 18) [xc (.int .i64 2)],so 143 (.call 17) [xt 141,xt 142],so 144 (.call 18) [xc (.int .i64 3)],so 145 (.call 18) [xc (.int .i64 4)],so 146 (.call 17) [xt 144,xt 145],so 147 (.call 17) [xt 143,xt 146],so 148 (.call 15) [xt 147],mv 140 148,so 149 (.extract 0) [xt 140],so 150 (.extract 1) [xt 140],mv 19 149,mv 20 150] (rg [so 21 (.nilv true 4 33) [xc .nils]] (.seq (rg [so 22 .mv [xc (.int .i64 1)]] (.block 0 (.loop [15,16,17,18,19,20,21,22] (.seq (rg [mv 151 22,bc 152 .lss 151 3] (.cond (xt 152) .skip (.exit 0))) (.seq (.block 1 (.reg [mv 155 21,mv 156 22,so 157 (.call 18) [xt 156],so 158 (.call 18) [xc (.int .i64 2)],so 159 (.bslice true 4 2 33 [(.int .u8 0),(.int .i64 0),(.str []),(.slice [] []),(.int .u8 0),(.int .i64 0),(.str []),(.slice [] [])] [(0,4),(4,4)]) [xt 157,xt 158],so 160 (.call 16) [xc (.str [102]),xt 159],mv 161 22,so 162 (.call 18) [xt 161],so 163 (.call 18) [xc (.int .i64 4)],so 164 (.bslice true 4 2 33 [(.int .u8 0),(.int .i64 0),(.str []),(.slice [] []),(.int .u8 0),(.int .i64 0),(.str []),(.slice [] [])] [(0,4),(4,4)]) [xt 162,xt 163],so 165 (.call 16) [xc (.str [102]),xt 164],mv 166 22,so 167 (.call 18) [xt 166],so 168 (.call 18) [xc (.int .i64 6)],so 169 (.bslice true 4 2 33 [(.int .u8 0),(.int .i64 0),(.str []),(.slice [] []),(.int .u8 0),(.int .i64 0),(.str []),(.slice [] [])] [(0,4),(4,4)]) [xt 167,xt 168],so 170 (.call 16) [xc (.str [102]),xt 169],so 171 (.bslice true 4 3 33 [(.int .u8 0),(.int .i64 0),(.str []),(.slice [] []),(.int .u8 0),(.int .i64 0),(.str []),(.slice [] []),(.int .u8 0),(.int .i64 0),(.str []),(.slice [] [])] [(0,4),(4,4),(8,4)]) [xt 160,xt 165,xt 170],.app 172 none true 4 33 (xt 155) (xt 171),mv 21 172])) (.reg [mv 153 22,bc 154 .add 153 1,mv 22 154])))))) (rg [mv 173 16,bc 174 .eql 173 0,mv 175 174,.a (some 176) (some (175,true)) .mv [xt 18],.a (some 177) (some (175,true)) (.bin .eql) [xt 176,xc (.int .i64 0)],so 178 .pick [xt 175,xt 177,xc (.bool false)],mv 179 178,.a (some 180) (some (179,true)) .mv [xt 20],.a (some 181) (some (179,true)) (.bin .eql) [xt 180,xc (.int .i64 0)],so 182 .pick [xt 179,xt 181,xc (.bool false)],mv 183 182,.a (some 184) (some (183,true)) .mv [xt 15],.a (some 185) (some (183,true)) .mv [xt 21],.a (some 186) (some (183,true)) (.call 29) [xt 184,xt 185],so 187 .pick [xt 183,xt 186,xc (.bool false)],mv 188 187,.a (some 189) (some (188,true)) .mv [xt 17],.a (some 190) (some (188,true)) (.len false) [xt 189],.a (some 191) (some (188,true)) (.bin .eql) [xt 190,xc (.int .i64 0)],so 192 .pick [xt 188,xt 191,xc (.bool false)],mv 193 192,.a (some 194) (some (193,true)) .mv [xt 19],.a (some 195) (some (193,true)) (.call 30) [xc (.int .i64 1),xc (.int .i64 4)],.a (some 196) (some (193,true)) (.call 29) [xt 194,xt 195],so 197 .pick [xt 193,xt 196,xc (.bool false)],mv 0 197] .ret))))))))))))))))
def rs8:List SR:=[.t 0]
theorem fp8:PF 8 198 sc8 rs8:=⟨⟨_,_,{ bt:=fun i=>if i=10 then true else false,fz:=T1,nd:=fun i=>if i=10 then [0,1,3,7,7,23,55,119,255,511,1023,2047,4095,8191,16383,32767,65535,131071,262143,524287] else [],lv:=fun i=>if i=18 then [15,16,17,18,19,20,21,22] else [] },Tryz.func8,rfl,rfl,by kernel_rfl,by kernel_rfl⟩,by kernel_rfl⟩

/- ostler/arith.Calc -/
def sc10:SC:=(rg [so 4 .mv [xc (.int .i64 0)],so 5 .mv [xc (.bool false)]] (.seq (rg [mv 6 1,.cd (some 7) none (xc (.func (.func 32) [] [])) [xt 6,xc (.func (.func 33) [] [])],so 8 (.un .not) [xt 7]] (.cond (xt 8) (rg [mv 9 1,ln 10 9] (.block 0 (rg [bc 12 .eql 10 1,mv 11 12] (.cond (xt 11) (.seq (.drw [0,1,3,7,0,16,63,0,128,127,1023] [mv 13 1,so 14 (.iaddr 1) [xt 13,xc (.int .i64 0)],ld 15 1 14,so 16 (.un .neg) [xt 15],mv 17 0,so 18 (.call 35) [xt 17],bi 19 .mul 16 18,mv 20 0,so 21 (.bin .eql) [xt 20,xc (.str [45])],mv 4 19,mv 5 21]) .ret) (rg [bc 23 .eql 10 2,mv 22 23] (.cond (xt 22) (.seq (.drw [0,0,2,6,0,16,48,127,255,255,1023,2047] [mv 24 0,mv 25 1,so 26 (.iaddr 1) [xt 25,xc (.int .i64 0)],ld 27 1 26,mv 28 1,so 29 (.iaddr 1) [xt 28,xc (.int .i64 1)],ld 30 1 29,so 31 (.call 36) [xt 24,xt 27,xt 30],so 32 (.extract 0) [xt 31],so 33 (.extract 1) [xt 31],mv 4 32,mv 5 33]) .ret) .skip)))))) .skip)) (rg [so 4 .mv [xc (.int .i64 0)],so 5 .mv [xc (.bool false)]] .ret)))
def rs10:List SR:=[.t 4,.t 5]
theorem fp10:PF 10 34 sc10 rs10:=⟨⟨_,_,{ bt:=fun i=>if i=32 then true else false,fz:=T1,nd:=fun i=>if i=4 then [0,1,3,7,0,16,63,0,128,127,1023] else if i=6 then [0,0,2,6,0,16,48,127,255,255,1023,2047] else [],lv:=N0 },Tryz.func10,rfl,rfl,by kernel_rfl,by kernel_rfl⟩,by kernel_rfl⟩

/- ostler/ostlerkit.SizeTerm -/
def sc13:SC:=(rg [so 2 .box [xt 0],so 4 .mv [xc (.int .i64 0)]] (rg [fa 5 3 2,ld 6 1 5,mv 7 1,bc 8 .sub 7 1,so 9 (.call 38) [xt 6,xt 8],so 10 (.bin .add) [xc (.int .i64 1),xt 9],mv 4 10] .ret))
def rs13:List SR:=[.t 4]
theorem fp13:PF 13 11 sc13 rs13:=⟨⟨_,_,{ bt:=F0,fz:=T1,nd:=N0,lv:=N0 },Tryz.func13,rfl,rfl,by kernel_rfl,by kernel_rfl⟩,by kernel_rfl⟩

/- ostler/arith.Expand -/
def sc15:SC:=(rg [so 1 .box [xt 0],so 2 (.alloc [.nils]) [],so 3 (.alloc [(.int .i64 0)]) []] (.seq (.spec (.frg [1,2,3])) (.seq (rg [lt 6 4 1,so 7 (.call 20) [xt 6],so 8 (.un .not) [xt 7],mv 9 8,.a (some 10) (some (9,false)) (.load true 4) [xt 1],.a (some 11) (some (9,false)) (.call 21) [xt 10],.a (some 12) (some (9,false)) (.un .not) [xt 11],so 13 .pick [xt 9,xc (.bool true),xt 12]] (.cond (xt 13) (rg [.st none (.c 1) (xt 2) (xc .nils),.st none (.c 1) (xt 3) (xc (.int .i64 2))] .ret) .skip)) (.seq (.spec (.frg [1,2,3])) (.seq (.spec (.dfr [so 14 (.mkfn (.func 39) 0) [xt 2,xt 3]] (xt 14))) (.seq (.spec (.frg [1,2,3])) (.seq (rg [lt 15 4 1,so 16 (.call 40) [xt 15],ln 17 16,so 18 .mv [xc (.int .i64 0)]] (.block 0 (.loop [2,3,16,17,18] (rg [bi 19 .lss 18 17] (.seq (.cond (xt 19) .skip (.exit 0)) (.seq (.block 1 (rg [ia 20 4 16 18,lt 21 4 20,so 5 (.alloc [(.int .u8 0),(.int .i64 0),(.str []),.nils]) [],.st none (.c 4) (xt 5) (xt 21)] (.drw [0,0,2,1,0,31,63,127,63] [ld 22 1 2,lt 23 4 5,so 24 (.call 41) [xt 23],ln 25 22,so 26 (.bslice true 4 1 33 [(.int .u8 0),(.int .i64 0),(.str []),(.slice [] [])] [(0,4)]) [xc (.agg [(.int .u8 0),(.int .i64 0),(.str []),(.slice [] [])])],.app 27 none false 4 33 (xt 22) (xt 26),ia 28 4 27 25,.st none (.c 4) (xt 28) (xt 24),.st none (.c 1) (xt 2) (xt 27)]))) (.reg [bc 29 .add 18 1,mv 18 29]))))))) (.seq (.spec (.frg [2,3])) (rg [ld 30 1 2,.st none (.c 1) (xt 2) (xt 30),.st none (.c 1) (xt 3) (xc (.int .i64 0))] .ret)))))))))
def rs15:List SR:=[.cell 2 false 1,.cell 3 false 1]
theorem fp15:PF 15 31 sc15 rs15:=⟨⟨_,_,{ bt:=F0,fz:=fun i=>if i=27 then false else true,nd:=fun i=>if i=7 then [0,0,2,1,0,31,63,127,63] else [],lv:=fun i=>if i=6 then [2,3,16,17,18] else [],fg:=fun i=>if i=2 then some [1,2,3] else if i=4 then some [1,2,3] else if i=5 then some [1,2,3] else if i=10 then some [2,3] else none },Tryz.func15,rfl,rfl,by kernel_rfl,by kernel_rfl⟩,by kernel_rfl⟩

/- ostler/ostlerlaw02.fun -/
def sc16:SC:=(rg [so 4 (.alloc [(.int .u8 0),(.int .i64 0),(.str []),.nils]) []] (rg [mv 5 0,mv 6 1,so 7 (.build [(.int .u8 0),(.int .i64 0),(.str []),(.slice [] [])] [(0,1),(2,1),(3,1)]) [xc (.int .u8 4),xt 5,xt 6],.st none (.c 4) (xt 4) (xt 7)] .ret))
def rs16:List SR:=[.cell 4 true 4]
theorem fp16:PF 16 8 sc16 rs16:=⟨⟨_,_,{ bt:=F0,fz:=T1,nd:=N0,lv:=N0 },Tryz.func16,rfl,rfl,by kernel_rfl,by kernel_rfl⟩,by kernel_rfl⟩

/- ostler/ostlerlaw02.span -/
def sc17:SC:=(rg [so 2 .box [xt 0],so 3 .box [xt 1],so 4 (.alloc [(.int .u8 0),(.int .i64 0),(.str []),.nils]) []] (rg [lt 5 4 2,lt 6 4 3,so 7 (.bslice true 4 2 33 [(.int .u8 0),(.int .i64 0),(.str []),(.slice [] []),(.int .u8 0),(.int .i64 0),(.str []),(.slice [] [])] [(0,4),(4,4)]) [xt 5,xt 6],so 8 (.build [(.int .u8 0),(.int .i64 0),(.str []),(.slice [] [])] [(0,1),(3,1)]) [xc (.int .u8 6),xt 7],.st none (.c 4) (xt 4) (xt 8)] .ret))
def rs17:List SR:=[.cell 4 true 4]
theorem fp17:PF 17 9 sc17 rs17:=⟨⟨_,_,{ bt:=F0,fz:=T1,nd:=N0,lv:=N0 },Tryz.func17,rfl,rfl,by kernel_rfl,by kernel_rfl⟩,by kernel_rfl⟩

/- ostler/ostlerlaw02.num -/
def sc18:SC:=(rg [so 2 (.alloc [(.int .u8 0),(.int .i64 0),(.str []),.nils]) []] (rg [mv 3 0,so 4 (.build [(.int .u8 0),(.int .i64 0),(.str []),(.slice [] [])] [(0,1),(1,1)]) [xc (.int .u8 1),xt 3],.st none (.c 4) (xt 2) (xt 4)] .ret))
def rs18:List SR:=[.cell 2 true 4]
theorem fp18:PF 18 5 sc18 rs18:=⟨⟨_,_,{ bt:=F0,fz:=T1,nd:=N0,lv:=N0 },Tryz.func18,rfl,rfl,by kernel_rfl,by kernel_rfl⟩,by kernel_rfl⟩

/- ostler/term.Equal -/
def sc19:SC:=(rg [so 2 .box [xt 0],so 3 .box [xt 1],so 4 .mv [xc (.bool false)]] (rg [lt 5 4 2,lt 6 4 3,so 7 (.call 24) [xt 5,xt 6],bc 8 .eql 7 0,mv 4 8] .ret))
def rs19:List SR:=[.t 4]
theorem fp19:PF 19 9 sc19 rs19:=⟨⟨_,_,{ bt:=F0,fz:=T1,nd:=N0,lv:=N0 },Tryz.func19,rfl,rfl,by kernel_rfl,by kernel_rfl⟩,by kernel_rfl⟩

/- ostler/term.Valid -/
def sc20:SC:=(rg [so 1 .box [xt 0],so 2 .mv [xc (.bool false)]] (rg [lt 3 4 1,so 4 (.call 42) [xt 3],bc 5 .leq 4 12,mv 6 5,.a (some 7) (some (6,true)) (.load true 4) [xt 1],.cd (some 8) (some (6,true)) (xc (.func (.func 43) [] [])) [xt 7,xc (.func (.func 44) [] [])],so 9 .pick [xt 6,xt 8,xc (.bool false)],mv 2 9] .ret))
def rs20:List SR:=[.t 2]
theorem fp20:PF 20 10 sc20 rs20:=⟨⟨_,_,{ bt:=fun i=>if i=43 then true else false,fz:=T1,nd:=N0,lv:=N0 },Tryz.func20,rfl,rfl,by kernel_rfl,by kernel_rfl⟩,by kernel_rfl⟩

/- ostler/term.Ground -/
def sc21:SC:=(rg [so 1 .box [xt 0],so 2 .mv [xc (.bool false)]] (rg [lt 3 4 1,.cd (some 4) none (xc (.func (.func 43) [] [])) [xt 3,xc (.func (.func 46) [] [])],mv 2 4] .ret))
def rs21:List SR:=[.t 2]
theorem fp21:PF 21 5 sc21 rs21:=⟨⟨_,_,{ bt:=fun i=>if i=43 then true else false,fz:=T1,nd:=N0,lv:=N0 },Tryz.func21,rfl,rfl,by kernel_rfl,by kernel_rfl⟩,by kernel_rfl⟩

/- ostler/ostlerlaw02.plain -/
def sc22:SC:=(rg [so 1 .box [xt 0],so 2 (.nilv true 4 33) [xc .nils],so 3 .mv [xc (.bool false)]] (rg [so 18 (.bslice true 1 1 31 [(.slice [] [])] [(0,1)]) [xc .nils],mv 4 18] (.seq (rg [so 5 .mv [xc (.int .i64 0)]] (.block 0 (.loop [1,4,5] (.seq (rg [mv 19 5,fa 20 3 1,ld 21 1 20,ln 22 21,bi 23 .lss 19 22] (.cond (xt 23) .skip (.exit 0))) (.seq (.block 1 (rg [fa 27 3 1,ld 28 1 27,mv 29 5,ia 30 4 28 29,lt 31 4 30,so 32 (.call 22) [xt 31],mv 26 32,so 33 (.extract 0) [xt 26],so 34 (.extract 1) [xt 26],mv 6 33,mv 7 34] (.seq (rg [mv 35 7,so 36 (.un .not) [xt 35],mv 37 36,.a (some 38) (some (37,false)) .mv [xt 4],.a (some 39) (some (37,false)) (.len false) [xt 38],.a (some 40) (some (37,false)) .mv [xt 6],.a (some 41) (some (37,false)) (.len false) [xt 40],.a (some 42) (some (37,false)) (.bin .mul) [xt 39,xt 41],.a (some 43) (some (37,false)) (.bin .gtr) [xt 42,xc (.int .i64 300)],so 44 .pick [xt 37,xc (.bool true),xt 43]] (.cond (xt 44) (rg [so 2 (.nilv true 4 33) [xc .nils],so 3 .mv [xc (.bool false)]] .ret) .skip)) (rg [so 8 (.nilv true 1 31) [xc .nils]] (.seq (rg [so 9 .mv [xc (.int .i64 0)]] (.block 2 (.loop [1,4,5,6,8,9] (.seq (rg [mv 45 9,mv 46 4,ln 47 46,bi 48 .lss 45 47] (.cond (xt 48) .skip (.exit 2))) (.seq (.block 3 (rg [so 10 .mv [xc (.int .i64 0)]] (.block 4 (.loop [1,4,5,6,8,9,10] (.seq (rg [mv 51 10,mv 52 6,ln 53 52,bi 54 .lss 51 53] (.cond (xt 54) .skip (.exit 4))) (.seq (.block 5 (.drw [0,0,0,0,12,28,62,0,0,384,896,1920,4094,8190,16383,32767] [mv 57 8,so 58 (.bslice true 4 0 33 [] []) [],mv 59 4,mv 60 9,ia 61 1 59 60,ld 62 1 61,.app 63 none true 4 33 (xt 58) (xt 62),mv 64 6,mv 65 10,ia 66 4 64 65,lt 67 4 66,so 68 (.bslice true 4 1 33 [(.int .u8 0),(.int .i64 0),(.str []),(.slice [] [])] [(0,4)]) [xt 67],.app 69 none true 4 33 (xt 63) (xt 68),so 70 (.bslice true 1 1 31 [(.slice [] [])] [(0,1)]) [xt 69],.app 71 none true 1 31 (xt 57) (xt 70),mv 8 71])) (.reg [mv 55 10,bc 56 .add 55 1,mv 10 56]))))))) (.reg [mv 49 9,bc 50 .add 49 1,mv 9 50])))))) (.reg [mv 72 8,mv 4 72])))))) (.reg [mv 24 5,bc 25 .add 24 1,mv 5 25])))))) (rg [so 11 (.nilv true 4 33) [xc .nils]] (.seq (rg [so 12 .mv [xc (.int .i64 0)]] (.block 6 (.loop [1,4,11,12] (.seq (rg [mv 73 12,mv 74 4,ln 75 74,bi 76 .lss 73 75] (.cond (xt 76) .skip (.exit 6))) (.seq (.block 7 (rg [lt 79 4 1,so 13 (.alloc [(.int .u8 0),(.int .i64 0),(.str []),.nils]) [],.st none (.c 4) (xt 13) (xt 79)] (rg [mv 80 4,mv 81 12,ia 82 1 80 81,ld 83 1 82,fa 84 3 13,.st none (.c 1) (xt 84) (xt 83)] (.seq (rg [fa 85 0 1,ld 86 1 85,so 87 (.bin .neq) [xt 86,xc (.int .u8 6)]] (.cond (xt 87) (rg [mv 88 11,lt 89 4 13,so 90 (.bslice true 4 1 33 [(.int .u8 0),(.int .i64 0),(.str []),(.slice [] [])] [(0,4)]) [xt 89],.app 91 none true 4 33 (xt 88) (xt 90),mv 11 91] (.exit 7)) .skip)) (rg [fa 93 3 13,ld 94 1 93,so 95 (.iaddr 4) [xt 94,xc (.int .i64 0)],lt 96 4 95,so 97 (.call 25) [xt 96],mv 92 97,so 98 (.extract 0) [xt 92],so 99 (.extract 1) [xt 92],so 14 (.alloc [(.int .u8 0),(.int .i64 0),(.str []),.nils]) [],.st none (.c 4) (xt 14) (xt 98),mv 15 99] (rg [fa 101 3 13,ld 102 1 101,so 103 (.iaddr 4) [xt 102,xc (.int .i64 1)],lt 104 4 103,so 105 (.call 25) [xt 104],mv 100 105,so 106 (.extract 0) [xt 100],so 107 (.extract 1) [xt 100],so 16 (.alloc [(.int .u8 0),(.int .i64 0),(.str []),.nils]) [],.st none (.c 4) (xt 16) (xt 106),mv 17 107] (.seq (rg [mv 108 15,so 109 (.un .not) [xt 108],mv 110 109,.a (some 111) (some (110,false)) .mv [xt 17],.a (some 112) (some (110,false)) (.un .not) [xt 111],so 113 .pick [xt 110,xc (.bool true),xt 112],mv 114 113,.a (some 115) (some (114,false)) (.faddr 0) [xt 14],.a (some 116) (some (114,false)) (.load false 1) [xt 115],.a (some 117) (some (114,false)) (.bin .neq) [xt 116,xc (.int .u8 1)],so 118 .pick [xt 114,xc (.bool true),xt 117],mv 119 118,.a (some 120) (some (119,false)) (.faddr 0) [xt 16],.a (some 121) (some (119,false)) (.load false 1) [xt 120],.a (some 122) (some (119,false)) (.bin .neq) [xt 121,xc (.int .u8 1)],so 123 .pick [xt 119,xc (.bool true),xt 122]] (.cond (xt 123) (.exit 7) .skip)) (.seq (rg [fa 124 1 16,ld 125 1 124,fa 126 1 14,ld 127 1 126,bi 128 .sub 125 127,bc 129 .gtr 128 300,mv 130 129,.a (some 131) (some (130,false)) .mv [xt 11],.a (some 132) (some (130,false)) (.len false) [xt 131],.a (some 133) (some (130,false)) (.bin .gtr) [xt 132,xc (.int .i64 300)],so 134 .pick [xt 130,xc (.bool true),xt 133]] (.cond (xt 134) (rg [so 2 (.nilv true 4 33) [xc .nils],so 3 .mv [xc (.bool false)]] .ret) .skip)) (.reg [mv 135 11,fa 136 1 14,ld 137 1 136,fa 138 1 16,ld 139 1 138,so 140 (.call 30) [xt 137,xt 139],.app 141 none true 4 33 (xt 135) (xt 140),mv 11 141]))))))))) (.reg [mv 77 12,bc 78 .add 77 1,mv 12 78])))))) (rg [mv 142 11,mv 143 11,ln 144 143,bc 145 .leq 144 300,mv 2 142,mv 3 145] .ret))))))
def rs22:List SR:=[.t 2,.t 3]
theorem fp22:PF 22 146 sc22 rs22:=⟨⟨_,_,{ bt:=F0,fz:=T1,nd:=fun i=>if i=15 then [0,0,0,0,12,28,62,0,0,384,896,1920,4094,8190,16383,32767] else [],lv:=fun i=>if i=4 then [1,4,5] else if i=11 then [1,4,5,6,8,9] else if i=14 then [1,4,5,6,8,9,10] else if i=20 then [1,4,11,12] else [] },Tryz.func22,rfl,rfl,by kernel_rfl,by kernel_rfl⟩,by kernel_rfl⟩

/- ostler/term.Value -/
def sc23:SC:=(rg [so 1 .box [xt 0],so 2 .mv [xc (.bool false)]] (rg [so 3 .mv [xc (.func (.func 47) [] [])]] (rg [lt 4 4 1,mv 5 3,.cd (some 6) none (xc (.func (.func 43) [] [])) [xt 4,xt 5],mv 7 6,.a (some 8) (some (7,true)) (.load true 4) [xt 1],.a (some 9) (some (7,true)) (.call 20) [xt 8],so 10 .pick [xt 7,xt 9,xc (.bool false)],mv 2 10] .ret)))
def rs23:List SR:=[.t 2]
theorem fp23:PF 23 11 sc23 rs23:=⟨⟨_,_,{ bt:=fun i=>if i=43 then true else false,fz:=T1,nd:=N0,lv:=N0 },Tryz.func23,rfl,rfl,by kernel_rfl,by kernel_rfl⟩,by kernel_rfl⟩

/- ostler/term.Compare -/
def sc24:SC:=(rg [so 2 .box [xt 0],so 3 .box [xt 1],so 4 .mv [xc (.int .i64 0)]] (.seq (.seq (.drw [0,1,3,0,8,31,63,127] [fa 7 0 2,ld 8 1 7,so 9 (.call 49) [xt 8],fa 10 0 3,ld 11 1 10,so 12 (.call 49) [xt 11],so 13 (.call 48) [xt 9,xt 12],mv 5 13]) (rg [mv 14 5,bc 15 .neq 14 0] (.cond (xt 15) (rg [mv 16 5,mv 4 16] .ret) .skip))) (.seq (rg [fa 17 1 2,ld 18 1 17,fa 19 1 3,ld 20 1 19,so 21 (.call 48) [xt 18,xt 20],mv 6 21] (rg [mv 22 6,bc 23 .neq 22 0,mv 24 23,.a (some 25) (some (24,true)) (.faddr 0) [xt 2],.a (some 26) (some (24,true)) (.load false 1) [xt 25],.a (some 27) (some (24,true)) (.bin .eql) [xt 26,xc (.int .u8 1)],so 28 .pick [xt 24,xt 27,xc (.bool false)]] (.cond (xt 28) (rg [mv 29 6,mv 4 29] .ret) .skip))) (.seq (.drw [0,1,3,0,8,24,63,0,128,0,512,2047,0,4096,0,16384,65535,0,131072,0,524288,2097151,4194303,8388607,16777215] [fa 30 3 2,ld 31 1 30,ln 32 31,fa 33 3 3,ld 34 1 33,ln 35 34,so 36 (.call 48) [xt 32,xt 35],fa 37 2 2,ld 38 1 37,fa 39 2 3,ld 40 1 39,so 41 (.call 51) [xt 38,xt 40],fa 42 3 2,ld 43 1 42,fa 44 3 3,ld 45 1 44,.cd (some 46) none (xc (.func (.func 52) [] [])) [xt 43,xt 45,xc (.func (.func 24) [] [])],fa 47 1 2,ld 48 1 47,fa 49 1 3,ld 50 1 49,so 51 (.call 48) [xt 48,xt 50],so 52 (.bslice true 1 4 3 [(.int .i64 0),(.int .i64 0),(.int .i64 0),(.int .i64 0)] [(0,1),(1,1),(2,1),(3,1)]) [xt 36,xt 41,xt 46,xt 51],so 53 (.call 50) [xt 52],mv 4 53]) .ret))))
def rs24:List SR:=[.t 4]
theorem fp24:PF 24 54 sc24 rs24:=⟨⟨_,_,{ bt:=fun i=>if i=52 then true else false,fz:=T1,nd:=fun i=>if i=1 then [0,1,3,0,8,31,63,127] else if i=7 then [0,1,3,0,8,24,63,0,128,0,512,2047,0,4096,0,16384,65535,0,131072,0,524288,2097151,4194303,8388607,16777215] else [],lv:=N0 },Tryz.func24,rfl,rfl,by kernel_rfl,by kernel_rfl⟩,by kernel_rfl⟩

/- ostler/arith.Eval -/
def sc25:SC:=(rg [so 1 .box [xt 0],so 2 (.alloc [(.int .u8 0),(.int .i64 0),(.str []),.nils]) [],so 3 .mv [xc (.bool false)]] (.seq (rg [lt 5 4 1,so 6 (.call 20) [xt 5],so 7 (.un .not) [xt 6],mv 8 7,.a (some 9) (some (8,false)) (.load true 4) [xt 1],.a (some 10) (some (8,false)) (.call 21) [xt 9],.a (some 11) (some (8,false)) (.un .not) [xt 10],so 12 .pick [xt 8,xc (.bool true),xt 11],mv 13 12,.a (some 14) (some (13,false)) (.load true 4) [xt 1],.a (some 15) (some (13,false)) (.call 53) [xt 14],so 16 .pick [xt 13,xc (.bool true),xt 15]] (.cond (xt 16) (rg [so 17 (.build [(.int .u8 0),(.int .i64 0),(.str []),(.slice [] [])] []) [],.st none (.c 4) (xt 2) (xt 17),so 3 .mv [xc (.bool false)]] .ret) .skip)) (rg [lt 18 4 1,so 19 (.call 40) [xt 18],mv 4 19] (.seq (rg [mv 20 4,ln 21 20,bc 22 .eql 21 0] (.cond (xt 22) (rg [so 23 (.build [(.int .u8 0),(.int .i64 0),(.str []),(.slice [] [])] []) [],.st none (.c 4) (xt 2) (xt 23),so 3 .mv [xc (.bool false)]] .ret) .skip)) (rg [mv 24 4,so 25 (.iaddr 4) [xt 24,xc (.int .i64 0)],lt 26 4 25,so 27 (.call 41) [xt 26],.st none (.c 4) (xt 2) (xt 27),so 3 .mv [xc (.bool true)]] .ret)))))
def rs25:List SR:=[.cell 2 true 4,.t 3]
theorem fp25:PF 25 28 sc25 rs25:=⟨⟨_,_,{ bt:=F0,fz:=T1,nd:=N0,lv:=N0 },Tryz.func25,rfl,rfl,by kernel_rfl,by kernel_rfl⟩,by kernel_rfl⟩

/- ostler/ostlerlaw02.op -/
def sc26:SC:=(rg [so 4 (.alloc [(.int .u8 0),(.int .i64 0),(.str []),.nils]) []] (rg [mv 5 0,mv 6 1,so 7 (.build [(.int .u8 0),(.int .i64 0),(.str []),(.slice [] [])] [(0,1),(2,1),(3,1)]) [xc (.int .u8 5),xt 5,xt 6],.st none (.c 4) (xt 4) (xt 7)] .ret))
def rs26:List SR:=[.cell 4 true 4]
theorem fp26:PF 26 8 sc26 rs26:=⟨⟨_,_,{ bt:=F0,fz:=T1,nd:=N0,lv:=N0 },Tryz.func26,rfl,rfl,by kernel_rfl,by kernel_rfl⟩,by kernel_rfl⟩

/- ostler/ostlerlaw02.sym -/
def sc27:SC:=(rg [so 2 (.alloc [(.int .u8 0),(.int .i64 0),(.str []),.nils]) []] (rg [mv 3 0,so 4 (.build [(.int .u8 0),(.int .i64 0),(.str []),(.slice [] [])] [(0,1),(2,1)]) [xc (.int .u8 2),xt 3],.st none (.c 4) (xt 2) (xt 4)] .ret))
def rs27:List SR:=[.cell 2 true 4]
theorem fp27:PF 27 5 sc27 rs27:=⟨⟨_,_,{ bt:=F0,fz:=T1,nd:=N0,lv:=N0 },Tryz.func27,rfl,rfl,by kernel_rfl,by kernel_rfl⟩,by kernel_rfl⟩

/- ostler/ostlerkit.SameTerm -/
def sc28:SC:=(rg [so 2 .box [xt 0],so 3 .box [xt 1],so 4 .mv [xc (.bool false)]] (rg [fa 5 0 2,ld 6 1 5,fa 7 0 3,ld 8 1 7,bi 9 .eql 6 8,mv 10 9,.a (some 11) (some (10,true)) (.faddr 1) [xt 2],.a (some 12) (some (10,true)) (.load false 1) [xt 11],.a (some 13) (some (10,true)) (.faddr 1) [xt 3],.a (some 14) (some (10,true)) (.load false 1) [xt 13],.a (some 15) (some (10,true)) (.bin .eql) [xt 12,xt 14],so 16 .pick [xt 10,xt 15,xc (.bool false)],mv 17 16,.a (some 18) (some (17,true)) (.faddr 2) [xt 2],.a (some 19) (some (17,true)) (.load false 1) [xt 18],.a (some 20) (some (17,true)) (.faddr 2) [xt 3],.a (some 21) (some (17,true)) (.load false 1) [xt 20],.a (some 22) (some (17,true)) (.bin .eql) [xt 19,xt 21],so 23 .pick [xt 17,xt 22,xc (.bool false)],mv 24 23,.a (some 25) (some (24,true)) (.faddr 3) [xt 2],.a (some 26) (some (24,true)) (.load false 1) [xt 25],.a (some 27) (some (24,true)) (.faddr 3) [xt 3],.a (some 28) (some (24,true)) (.load false 1) [xt 27],.a (some 29) (some (24,true)) (.call 29) [xt 26,xt 28],so 30 .pick [xt 24,xt 29,xc (.bool false)],mv 4 30] .ret))
def rs28:List SR:=[.t 4]
theorem fp28:PF 28 31 sc28 rs28:=⟨⟨_,_,{ bt:=F0,fz:=T1,nd:=N0,lv:=N0 },Tryz.func28,rfl,rfl,by kernel_rfl,by kernel_rfl⟩,by kernel_rfl⟩

/- ostler/ostlerkit.SameTerms -/
def sc29:SC:=(rg [so 4 .mv [xc (.bool false)]] (.seq (rg [mv 6 0,ln 7 6,mv 8 1,ln 9 8,bi 10 .neq 7 9] (.cond (xt 10) (rg [so 4 .mv [xc (.bool false)]] .ret) .skip)) (.seq (rg [so 5 .mv [xc (.int .i64 0)]] (.block 0 (.loop [0,1,5] (.seq (rg [mv 11 5,mv 12 0,ln 13 12,bi 14 .lss 11 13] (.cond (xt 14) .skip (.exit 0))) (.seq (.block 1 (.seq (.drw [0,0,3,7,0,0,48,112,255,511] [mv 17 0,mv 18 5,ia 19 4 17 18,lt 20 4 19,mv 21 1,mv 22 5,ia 23 4 21 22,lt 24 4 23,so 25 (.call 28) [xt 20,xt 24],so 26 (.un .not) [xt 25]]) (.cond (xt 26) (rg [so 4 .mv [xc (.bool false)]] .ret) .skip))) (.reg [mv 15 5,bc 16 .add 15 1,mv 5 16])))))) (rg [so 4 .mv [xc (.bool true)]] .ret))))
def rs29:List SR:=[.t 4]
theorem fp29:PF 29 27 sc29 rs29:=⟨⟨_,_,{ bt:=F0,fz:=T1,nd:=fun i=>if i=6 then [0,0,3,7,0,0,48,112,255,511] else [],lv:=fun i=>if i=5 then [0,1,5] else [] },Tryz.func29,rfl,rfl,by kernel_rfl,by kernel_rfl⟩,by kernel_rfl⟩

/- ostler/ostlerlaw02.integers -/
def sc30:SC:=(rg [so 4 (.nilv true 4 33) [xc .nils]] (rg [so 5 (.nilv true 4 33) [xc .nils]] (.seq (rg [mv 7 0,mv 6 7] (.block 0 (.loop [1,5,6] (.seq (rg [mv 8 6,mv 9 1,bi 10 .leq 8 9] (.cond (xt 10) .skip (.exit 0))) (.seq (.block 1 (.reg [mv 13 5,mv 14 6,so 15 (.call 18) [xt 14],so 16 (.bslice true 4 1 33 [(.int .u8 0),(.int .i64 0),(.str []),(.slice [] [])] [(0,4)]) [xt 15],.app 17 none true 4 33 (xt 13) (xt 16),mv 5 17])) (.reg [mv 11 6,bc 12 .add 11 1,mv 6 12])))))) (rg [mv 18 5,mv 4 18] .ret))))
def rs30:List SR:=[.t 4]
theorem fp30:PF 30 19 sc30 rs30:=⟨⟨_,_,{ bt:=F0,fz:=T1,nd:=N0,lv:=fun i=>if i=4 then [1,5,6] else [] },Tryz.func30,rfl,rfl,by kernel_rfl,by kernel_rfl⟩,by kernel_rfl⟩

/- slices.ContainsFunc[[]int,int] -/
def sc32:SC:=(rg [so 4 .mv [xc (.bool false)]] (rg [mv 5 0,mv 6 1,.cd (some 7) none (xc (.func (.func 54) [] [])) [xt 5,xt 6],bc 8 .geq 7 0,mv 4 8] .ret))
def rs32:List SR:=[.t 4]
theorem fp32:PF 32 9 sc32 rs32:=⟨⟨_,_,{ bt:=fun i=>if i=54 then true else false,fz:=T1,nd:=N0,lv:=N0 },Tryz.func32,rfl,rfl,by kernel_rfl,by kernel_rfl⟩,by kernel_rfl⟩

/- ostler/arith.Calc$1 -/
def sc33:SC:=(rg [so 2 .mv [xc (.bool false)]] (rg [mv 3 0,so 4 (.call 34) [xt 3],so 5 (.un .not) [xt 4],mv 2 5] .ret))
def rs33:List SR:=[.t 2]
theorem fp33:PF 33 6 sc33 rs33:=⟨⟨_,_,{ bt:=F0,fz:=T1,nd:=N0,lv:=N0 },Tryz.func33,rfl,rfl,by kernel_rfl,by kernel_rfl⟩,by kernel_rfl⟩

/- ostler/arith.fits -/
def sc34:SC:=(rg [so 2 .mv [xc (.bool false)]] (rg [mv 3 0,bc 4 .geq 3 (-2147483647),mv 5 4,.a (some 6) (some (5,true)) .mv [xt 0],.a (some 7) (some (5,true)) (.bin .leq) [xt 6,xc (.int .i64 2147483647)],so 8 .pick [xt 5,xt 7,xc (.bool false)],mv 2 8] .ret))
def rs34:List SR:=[.t 2]
theorem fp34:PF 34 9 sc34 rs34:=⟨⟨_,_,{ bt:=F0,fz:=T1,nd:=N0,lv:=N0 },Tryz.func34,rfl,rfl,by kernel_rfl,by kernel_rfl⟩,by kernel_rfl⟩

/- ostler/arith.sign -/
def sc35:SC:=(rg [so 2 .mv [xc (.int .i64 0)]] (.seq (rg [mv 3 0,so 4 (.bin .eql) [xt 3,xc (.str [45])]] (.cond (xt 4) (rg [so 2 .mv [xc (.int .i64 1)]] .ret) .skip)) (rg [so 2 .mv [xc (.int .i64 0)]] .ret)))
def rs35:List SR:=[.t 2]
theorem fp35:PF 35 5 sc35 rs35:=⟨⟨_,_,{ bt:=F0,fz:=T1,nd:=N0,lv:=N0 },Tryz.func35,rfl,rfl,by kernel_rfl,by kernel_rfl⟩,by kernel_rfl⟩

/- ostler/arith.calc -/
def sc36:SC:=(rg [so 4 .box [xt 1],so 5 .box [xt 2],so 6 .mv [xc (.int .i64 0)],so 7 .mv [xc (.bool false)]] (rg [so 10 .mkmap [],so 11 (.mkfn (.func 55) 0) [xt 4,xt 5],.st none (.m (.str [43])) (xt 10) (xt 11),so 12 (.mkfn (.func 56) 0) [xt 4,xt 5],.st none (.m (.str [45])) (xt 10) (xt 12),so 13 (.mkfn (.func 57) 0) [xt 4,xt 5],.st none (.m (.str [42])) (xt 10) (xt 13),so 14 (.mkfn (.func 58) 0) [xt 4,xt 5],.st none (.m (.str [47])) (xt 10) (xt 14),so 15 (.mkfn (.func 59) 0) [xt 4,xt 5],.st none (.m (.str [92])) (xt 10) (xt 15),mv 16 10,mv 17 0,so 18 (.mlook none .nilf) [xt 16,xt 17],mv 8 18] (.seq (rg [mv 19 8,so 20 (.eqn .eql 1) [xt 19,xc .nilf],mv 21 20,.a (some 22) (some (21,false)) (.load false 1) [xt 5],.a (some 23) (some (21,false)) (.bin .eql) [xt 22,xc (.int .i64 0)],.a (some 24) (some (21,false)) .mv [xt 23],.a (some 25) (some (24,true)) .mv [xt 0],.a (some 26) (some (24,true)) (.bin .eql) [xt 25,xc (.str [47])],.a (some 27) (some (24,true)) .mv [xt 26],.a (some 28) (some (27,false)) .mv [xt 0],.a (some 29) (some (27,false)) (.bin .eql) [xt 28,xc (.str [92])],.a (some 30) (some (24,true)) .pick [xt 27,xc (.bool true),xt 29],.a (some 31) (some (21,false)) .pick [xt 24,xt 30,xc (.bool false)],so 32 .pick [xt 21,xc (.bool true),xt 31]] (.cond (xt 32) (rg [so 6 .mv [xc (.int .i64 0)],so 7 .mv [xc (.bool false)]] .ret) .skip)) (rg [mv 33 8,.cd (some 34) none (xt 33) [],mv 9 34] (.seq (rg [mv 35 9,so 36 (.call 34) [xt 35],so 37 (.un .not) [xt 36]] (.cond (xt 37) (rg [so 6 .mv [xc (.int .i64 0)],so 7 .mv [xc (.bool false)]] .ret) .skip)) (rg [mv 38 9,mv 6 38,so 7 .mv [xc (.bool true)]] .ret))))))
def rs36:List SR:=[.t 6,.t 7]
theorem fp36:PF 36 39 sc36 rs36:=⟨⟨_,_,{ bt:=F0,fz:=T1,nd:=N0,lv:=N0 },Tryz.func36,rfl,rfl,by kernel_rfl,by kernel_rfl⟩,by kernel_rfl⟩

/- ostler/ostlerkit.SizeTerms -/
def sc38:SC:=(rg [so 4 .mv [xc (.int .i64 0)]] (rg [so 5 .mv [xc (.int .i64 0)]] (.seq (rg [so 6 .mv [xc (.int .i64 0)]] (.block 0 (.loop [0,1,5,6] (.seq (rg [mv 7 6,mv 8 0,ln 9 8,bi 10 .lss 7 9,mv 11 10,.a (some 12) (some (11,true)) .mv [xt 5],.a (some 13) (some (11,true)) .mv [xt 1],.a (some 14) (some (11,true)) (.bin .leq) [xt 12,xt 13],so 15 .pick [xt 11,xt 14,xc (.bool false)]] (.cond (xt 15) .skip (.exit 0))) (.seq (.block 1 (.reg [mv 18 5,mv 19 0,mv 20 6,ia 21 4 19 20,lt 22 4 21,mv 23 1,mv 24 5,bi 25 .sub 23 24,so 26 (.call 13) [xt 22,xt 25],bi 27 .add 18 26,mv 5 27])) (.reg [mv 16 6,bc 17 .add 16 1,mv 6 17])))))) (rg [mv 28 5,mv 4 28] .ret))))
def rs38:List SR:=[.t 4]
theorem fp38:PF 38 29 sc38 rs38:=⟨⟨_,_,{ bt:=F0,fz:=T1,nd:=N0,lv:=fun i=>if i=4 then [0,1,5,6] else [] },Tryz.func38,rfl,rfl,by kernel_rfl,by kernel_rfl⟩,by kernel_rfl⟩

/- ostler/arith.Expand$1 -/
def sc39:SC:=(.seq (.spec (.rcv 5 [so 6 (.ext (.tas 59 (.agg []))) [xt 5],mv 4 6,so 7 (.extract 0) [xt 4],so 8 (.extract 1) [xt 4],so 2 (.alloc []) [],.st none (.c 0) (xt 2) (xt 7),mv 3 8])) (rg [mv 9 3] (.cond (xt 9) (.reg [.st none (.c 1) (xt 0) (xc .nils),.st none (.c 1) (xt 1) (xc (.int .i64 5))]) .skip)))
def rs39:List SR:=[]
theorem fp39:PF 39 10 sc39 rs39:=⟨⟨_,_,{ bt:=F0,fz:=T1,nd:=N0,lv:=N0 },Tryz.func39,rfl,rfl,by kernel_rfl,by kernel_rfl⟩,by kernel_rfl⟩

/- ostler/arith.expand -/
def sc40:SC:=(rg [so 1 .box [xt 0],so 2 (.nilv true 4 33) [xc .nils]] (.seq (rg [fa 6 3 1,ld 7 1 6,ln 8 7,bc 9 .eql 8 0] (.cond (xt 9) (rg [lt 10 4 1,so 11 (.call 41) [xt 10],so 12 (.bslice true 4 1 33 [(.int .u8 0),(.int .i64 0),(.str []),(.slice [] [])] [(0,4)]) [xt 11],mv 2 12] .ret) .skip)) (rg [so 3 (.nilv true 1 31) [xc .nils]] (.seq (rg [fa 13 3 1,ld 14 1 13,ln 15 14,so 16 .mv [xc (.int .i64 0)]] (.block 0 (.loop [1,3,14,15,16] (rg [bi 17 .lss 16 15] (.seq (.cond (xt 17) .skip (.exit 0)) (.seq (.block 1 (rg [ia 18 4 14 16,lt 19 4 18,so 5 (.alloc [(.int .u8 0),(.int .i64 0),(.str []),.nils]) [],.st none (.c 4) (xt 5) (xt 19)] (.reg [mv 20 3,lt 21 4 5,so 22 (.call 40) [xt 21],so 23 (.bslice true 1 1 31 [(.slice [] [])] [(0,1)]) [xt 22],.app 24 none true 1 31 (xt 20) (xt 23),mv 3 24]))) (.reg [bc 25 .add 16 1,mv 16 25]))))))) (.seq (rg [fa 26 0 1,ld 27 1 26] (.block 2 (rg [so 29 (.bin .eql) [xt 27,xc (.int .u8 6)],mv 28 29] (.cond (xt 28) (.seq (.drw [0,1,3,7,0,16,48,127,255,511] [mv 30 3,so 31 (.iaddr 1) [xt 30,xc (.int .i64 0)],ld 32 1 31,so 33 (.call 61) [xt 32],mv 34 3,so 35 (.iaddr 1) [xt 34,xc (.int .i64 1)],ld 36 1 35,so 37 (.call 61) [xt 36],so 38 (.call 60) [xt 33,xt 37],mv 2 38]) .ret) (rg [so 40 (.bin .eql) [xt 27,xc (.int .u8 5)],mv 39 40] (.cond (xt 39) (rg [fa 41 2 1,ld 42 1 41,mv 43 3,so 44 (.call 62) [xt 42,xt 43],mv 2 44] .ret) .skip)))))) (rg [fa 45 2 1,ld 46 1 45,mv 47 3,so 48 (.call 63) [xt 46,xt 47],mv 2 48] .ret))))))
def rs40:List SR:=[.t 2]
theorem fp40:PF 40 49 sc40 rs40:=⟨⟨_,_,{ bt:=F0,fz:=T1,nd:=fun i=>if i=11 then [0,1,3,7,0,16,48,127,255,511] else [],lv:=fun i=>if i=6 then [1,3,14,15,16] else [] },Tryz.func40,rfl,rfl,by kernel_rfl,by kernel_rfl⟩,by kernel_rfl⟩

/- ostler/arith.copied -/
def sc41:SC:=(rg [so 1 .box [xt 0],so 2 (.alloc [(.int .u8 0),(.int .i64 0),(.str []),.nils]) []] (rg [fa 6 3 1,ld 7 1 6,mv 3 7] (rg [fa 8 3 1,.st none (.c 1) (xt 8) (xc .nils)] (.seq (rg [mv 9 3,ln 10 9,so 11 .mv [xc (.int .i64 0)]] (.block 0 (.loop [1,2,9,10,11] (rg [bi 12 .lss 11 10] (.seq (.cond (xt 12) .skip (.exit 0)) (.seq (.block 1 (rg [ia 13 4 9 11,lt 14 4 13,so 5 (.alloc [(.int .u8 0),(.int .i64 0),(.str []),.nils]) [],.st none (.c 4) (xt 5) (xt 14)] (.drw [0,1,0,4,12,31,63,127] [fa 15 3 1,ld 16 1 15,lt 17 4 5,so 18 (.call 41) [xt 17],so 19 (.bslice true 4 1 33 [(.int .u8 0),(.int .i64 0),(.str []),(.slice [] [])] [(0,4)]) [xt 18],.app 20 none true 4 33 (xt 16) (xt 19),fa 21 3 1,.st none (.c 1) (xt 21) (xt 20)]))) (.reg [bc 22 .add 11 1,mv 11 22]))))))) (rg [lt 23 4 1,.st none (.c 4) (xt 2) (xt 23)] .ret)))))
def rs41:List SR:=[.cell 2 true 4]
theorem fp41:PF 41 24 sc41 rs41:=⟨⟨_,_,{ bt:=F0,fz:=T1,nd:=fun i=>if i=6 then [0,1,0,4,12,31,63,127] else [],lv:=fun i=>if i=5 then [1,2,9,10,11] else [] },Tryz.func41,rfl,rfl,by kernel_rfl,by kernel_rfl⟩,by kernel_rfl⟩

/- ostler/term.Depth -/
def sc42:SC:=(rg [so 1 .box [xt 0],so 2 .mv [xc (.int .i64 0)]] (rg [so 3 .mv [xc (.int .i64 0)]] (.seq (rg [fa 6 3 1,ld 7 1 6,ln 8 7,so 9 .mv [xc (.int .i64 0)]] (.block 0 (.loop [3,7,8,9] (rg [bi 10 .lss 9 8] (.seq (.cond (xt 10) .skip (.exit 0)) (.seq (.block 1 (rg [ia 11 4 7 9,lt 12 4 11,so 5 (.alloc [(.int .u8 0),(.int .i64 0),(.str []),.nils]) [],.st none (.c 4) (xt 5) (xt 12)] (.reg [mv 13 3,lt 14 4 5,so 15 (.call 42) [xt 14],so 16 (.mm true) [xt 13,xt 15],mv 3 16]))) (.reg [bc 17 .add 9 1,mv 9 17]))))))) (rg [mv 18 3,bc 19 .add 18 1,mv 2 19] .ret))))
def rs42:List SR:=[.t 2]
theorem fp42:PF 42 20 sc42 rs42:=⟨⟨_,_,{ bt:=F0,fz:=T1,nd:=N0,lv:=fun i=>if i=4 then [3,7,8,9] else [] },Tryz.func42,rfl,rfl,by kernel_rfl,by kernel_rfl⟩,by kernel_rfl⟩

/- ostler/term.every -/
def sc43:SC:=(rg [so 2 .box [xt 0],so 3 .box [xt 1],so 4 (.alloc [(.bool false)]) []] (.seq (rg [lt 6 4 2,.cd (some 7) none (xc (.func (.func 64) [] [])) [xt 6]] (.block 0 (.rangeF 13 (xt 7) #[8] (.reg [so 5 (.alloc [(.int .u8 0),(.int .i64 0),(.str []),.nils]) [],.st none (.c 4) (xt 5) (xt 8)]) (.block 1 (rg [ld 9 1 3,lt 10 4 5,.cd (some 11) none (xt 9) [xt 10],so 12 (.un .not) [xt 11]] (.cond (xt 12) (rg [.st none (.c 1) (xt 4) (xc (.bool false))] .ret) .skip)))))) (rg [.st none (.c 1) (xt 4) (xc (.bool true))] .ret)))
def rs43:List SR:=[.cell 4 false 1]
theorem fp43:PF 43 13 sc43 rs43:=⟨⟨_,_,{ bt:=fun i=>if i=64 then true else false,fz:=T1,nd:=N0,lv:=N0 },Tryz.func43,rfl,rfl,by kernel_rfl,by kernel_rfl⟩,by kernel_rfl⟩

/- ostler/term.Valid$1 -/
def sc44:SC:=(rg [so 1 .box [xt 0],so 2 .mv [xc (.bool false)]] (rg [lt 3 4 1,so 4 (.build [(.int .u8 0),(.int .i64 0),(.str []),(.slice [] [])] [(0,4)]) [xt 3],so 5 (.call 45) [xt 4],mv 2 5] .ret))
def rs44:List SR:=[.t 2]
theorem fp44:PF 44 6 sc44 rs44:=⟨⟨_,_,{ bt:=F0,fz:=T1,nd:=N0,lv:=N0 },Tryz.func44,rfl,rfl,by kernel_rfl,by kernel_rfl⟩,by kernel_rfl⟩

/- (ostler/term.node).shape -/
def sc45:SC:=(rg [so 1 .box [xt 0],so 2 .mv [xc (.bool false)]] (rg [fa 7 0 1,fa 8 1 7,ld 9 1 8,bc 10 .eql 9 0,mv 11 10,.a (some 12) (some (11,true)) (.faddr 0) [xt 1],.a (some 13) (some (11,true)) (.faddr 2) [xt 12],.a (some 14) (some (11,true)) (.load false 1) [xt 13],.a (some 15) (some (11,true)) (.bin .neq) [xt 14,xc (.str [])],so 16 .pick [xt 11,xt 15,xc (.bool false)],so 3 (.alloc [(.bool false)]) [],.st none (.c 1) (xt 3) (xt 16)] (rg [fa 17 0 1,fa 18 2 17,ld 19 1 18,so 20 (.call 65) [xc (.str [43,45,42,47,92]),xt 19],mv 21 20,.a (some 22) (some (21,true)) (.faddr 0) [xt 1],.a (some 23) (some (21,true)) (.faddr 2) [xt 22],.a (some 24) (some (21,true)) (.load false 1) [xt 23],.a (some 25) (some (21,true)) (.len true) [xt 24],.a (some 26) (some (21,true)) (.bin .eql) [xt 25,xc (.int .i64 1)],so 27 .pick [xt 21,xt 26,xc (.bool false)],so 4 (.alloc [(.bool false)]) [],.st none (.c 1) (xt 4) (xt 27)] (rg [so 28 .mkmap [],so 29 (.mkfn (.func 66) 0) [xt 1],.st none (.m (.int .u8 1)) (xt 28) (xt 29),so 30 (.mkfn (.func 68) 0) [xt 3,xt 1],.st none (.m (.int .u8 2)) (xt 28) (xt 30),so 31 (.mkfn (.func 70) 0) [xt 3,xt 1],.st none (.m (.int .u8 3)) (xt 28) (xt 31),so 32 (.mkfn (.func 72) 0) [xt 3,xt 1],.st none (.m (.int .u8 4)) (xt 28) (xt 32),so 33 (.mkfn (.func 73) 0) [xt 3,xt 4,xt 1],.st none (.m (.int .u8 5)) (xt 28) (xt 33),so 34 (.mkfn (.func 74) 0) [xt 1],.st none (.m (.int .u8 6)) (xt 28) (xt 34),mv 35 28,mv 5 35] (rg [mv 36 5,fa 37 0 1,fa 38 0 37,ld 39 1 38,so 40 (.mlook (some .u8) .nilf) [xt 36,xt 39],mv 6 40] (rg [mv 41 6,so 42 (.eqn .neq 1) [xt 41,xc .nilf],mv 43 42,.a (some 44) (some (43,true)) .mv [xt 6],.cd (some 45) (some (43,true)) (xt 44) [],so 46 .pick [xt 43,xt 45,xc (.bool false)],mv 2 46] .ret))))))
def rs45:List SR:=[.t 2]
theorem fp45:PF 45 47 sc45 rs45:=⟨⟨_,_,{ bt:=F0,fz:=T1,nd:=N0,lv:=N0 },Tryz.func45,rfl,rfl,by kernel_rfl,by kernel_rfl⟩,by kernel_rfl⟩

/- ostler/term.Ground$1 -/
def sc46:SC:=(rg [so 1 .box [xt 0],so 2 .mv [xc (.bool false)]] (rg [fa 3 0 1,ld 4 1 3,so 5 (.bin .neq) [xt 4,xc (.int .u8 3)],mv 2 5] .ret))
def rs46:List SR:=[.t 2]
theorem fp46:PF 46 6 sc46 rs46:=⟨⟨_,_,{ bt:=F0,fz:=T1,nd:=N0,lv:=N0 },Tryz.func46,rfl,rfl,by kernel_rfl,by kernel_rfl⟩,by kernel_rfl⟩

/- ostler/term.Value$1 -/
def sc47:SC:=(rg [so 1 .box [xt 0],so 2 .mv [xc (.bool false)]] (rg [fa 3 0 1,ld 4 1 3,so 5 (.bin .eql) [xt 4,xc (.int .u8 1)],mv 6 5,.a (some 7) (some (6,false)) (.faddr 0) [xt 1],.a (some 8) (some (6,false)) (.load false 1) [xt 7],.a (some 9) (some (6,false)) (.bin .eql) [xt 8,xc (.int .u8 2)],so 10 .pick [xt 6,xc (.bool true),xt 9],mv 11 10,.a (some 12) (some (11,false)) (.faddr 0) [xt 1],.a (some 13) (some (11,false)) (.load false 1) [xt 12],.a (some 14) (some (11,false)) (.bin .eql) [xt 13,xc (.int .u8 4)],so 15 .pick [xt 11,xc (.bool true),xt 14],mv 2 15] .ret))
def rs47:List SR:=[.t 2]
theorem fp47:PF 47 16 sc47 rs47:=⟨⟨_,_,{ bt:=F0,fz:=T1,nd:=N0,lv:=N0 },Tryz.func47,rfl,rfl,by kernel_rfl,by kernel_rfl⟩,by kernel_rfl⟩

/- cmp.Compare[int] -/
def sc48:SC:=(rg [so 4 .mv [xc (.int .i64 0)]] (rg [mv 7 0,so 8 (.call 75) [xt 7],mv 5 8] (rg [mv 9 1,so 10 (.call 75) [xt 9],mv 6 10] (.seq (rg [mv 11 5] (.cond (xt 11) (.seq (rg [mv 12 6] (.cond (xt 12) (rg [so 4 .mv [xc (.int .i64 0)]] .ret) .skip)) (rg [so 4 .mv [xc (.int .i64 (-1))]] .ret)) .skip)) (.seq (rg [mv 13 6] (.cond (xt 13) (rg [so 4 .mv [xc (.int .i64 1)]] .ret) .skip)) (.seq (rg [mv 14 0,mv 15 1,bi 16 .lss 14 15] (.cond (xt 16) (rg [so 4 .mv [xc (.int .i64 (-1))]] .ret) .skip)) (.seq (rg [mv 17 0,mv 18 1,bi 19 .gtr 17 18] (.cond (xt 19) (rg [so 4 .mv [xc (.int .i64 1)]] .ret) .skip)) (rg [so 4 .mv [xc (.int .i64 0)]] .ret))))))))
def rs48:List SR:=[.t 4]
theorem fp48:PF 48 20 sc48 rs48:=⟨⟨_,_,{ bt:=F0,fz:=T1,nd:=N0,lv:=N0 },Tryz.func48,rfl,rfl,by kernel_rfl,by kernel_rfl⟩,by kernel_rfl⟩

/- ostler/term.rank -/
def sc49:SC:=(rg [so 2 .mv [xc (.int .i64 0)]] (rg [so 5 (.bslice true 1 6 5 [(.int .u8 0),(.int .u8 0),(.int .u8 0),(.int .u8 0),(.int .u8 0),(.int .u8 0)] [(0,1),(1,1),(2,1),(3,1),(4,1),(5,1)]) [xc (.int .u8 1),xc (.int .u8 2),xc (.int .u8 4),xc (.int .u8 3),xc (.int .u8 5),xc (.int .u8 6)],mv 3 5] (.seq (rg [mv 6 3,mv 7 0,so 8 (.call 76) [xt 6,xt 7],mv 4 8] (rg [mv 9 4,bc 10 .geq 9 0] (.cond (xt 10) (rg [mv 11 4,mv 2 11] .ret) .skip))) (rg [mv 12 3,ln 13 12,mv 14 0,so 15 (.conv .i64) [xt 14],bi 16 .add 13 15,mv 2 16] .ret))))
def rs49:List SR:=[.t 2]
theorem fp49:PF 49 17 sc49 rs49:=⟨⟨_,_,{ bt:=F0,fz:=T1,nd:=N0,lv:=N0 },Tryz.func49,rfl,rfl,by kernel_rfl,by kernel_rfl⟩,by kernel_rfl⟩

/- cmp.Or[int] -/
def sc50:SC:=(rg [so 2 .mv [xc (.int .i64 0)]] (rg [so 3 .mv [xc (.int .i64 0)]] (.seq (rg [mv 6 0,ln 7 6,so 8 .mv [xc (.int .i64 0)]] (.block 0 (.loop [3,6,7,8] (rg [bi 9 .lss 8 7] (.seq (.cond (xt 9) .skip (.exit 0)) (.seq (.block 1 (rg [ia 10 1 6 8,ld 11 1 10,mv 5 11] (rg [mv 12 5,mv 13 3,bi 14 .neq 12 13] (.cond (xt 14) (rg [mv 15 5,mv 2 15] .ret) .skip)))) (.reg [bc 16 .add 8 1,mv 8 16]))))))) (rg [mv 17 3,mv 2 17] .ret))))
def rs50:List SR:=[.t 2]
theorem fp50:PF 50 18 sc50 rs50:=⟨⟨_,_,{ bt:=F0,fz:=T1,nd:=N0,lv:=fun i=>if i=4 then [3,6,7,8] else [] },Tryz.func50,rfl,rfl,by kernel_rfl,by kernel_rfl⟩,by kernel_rfl⟩

/- slices.CompareFunc[[]ostler/api.Term,[]ostler/api.Term,ostler/api.Term,ostler/api.Term] -/
def sc52:SC:=(rg [so 6 .mv [xc (.int .i64 0)]] (.seq (rg [mv 11 0,ln 12 11,so 13 .mv [xc (.int .i64 0)]] (.block 0 (.loop [0,1,2,11,12,13] (rg [bi 14 .lss 13 12] (.seq (.cond (xt 14) .skip (.exit 0)) (.seq (.block 1 (rg [mv 15 13,ia 16 4 11 13,lt 17 4 16,so 8 (.alloc [(.int .u8 0),(.int .i64 0),(.str []),.nils]) [],mv 7 15,.st none (.c 4) (xt 8) (xt 17)] (.seq (rg [mv 18 7,mv 19 1,ln 20 19,bi 21 .geq 18 20] (.cond (xt 21) (rg [so 6 .mv [xc (.int .i64 1)]] .ret) .skip)) (rg [mv 22 1,mv 23 7,ia 24 4 22 23,lt 25 4 24,so 9 (.alloc [(.int .u8 0),(.int .i64 0),(.str []),.nils]) [],.st none (.c 4) (xt 9) (xt 25)] (rg [mv 26 2,lt 27 4 8,lt 28 4 9,.cd (some 29) none (xt 26) [xt 27,xt 28],mv 10 29] (rg [mv 30 10,bc 31 .neq 30 0] (.cond (xt 31) (rg [mv 32 10,mv 6 32] .ret) .skip))))))) (.reg [bc 33 .add 13 1,mv 13 33]))))))) (.seq (rg [mv 34 0,ln 35 34,mv 36 1,ln 37 36,bi 38 .lss 35 37] (.cond (xt 38) (rg [so 6 .mv [xc (.int .i64 (-1))]] .ret) .skip)) (rg [so 6 .mv [xc (.int .i64 0)]] .ret))))
def rs52:List SR:=[.t 6]
theorem fp52:PF 52 39 sc52 rs52:=⟨⟨_,_,{ bt:=F0,fz:=T1,nd:=N0,lv:=fun i=>if i=3 then [0,1,2,11,12,13] else [] },Tryz.func52,rfl,rfl,by kernel_rfl,by kernel_rfl⟩,by kernel_rfl⟩

/- ostler/arith.spans -/
def sc53:SC:=(rg [so 1 .box [xt 0],so 2 .mv [xc (.bool false)]] (rg [fa 3 0 1,ld 4 1 3,so 5 (.bin .eql) [xt 4,xc (.int .u8 6)],mv 6 5,.a (some 7) (some (6,false)) (.faddr 3) [xt 1],.a (some 8) (some (6,false)) (.load false 1) [xt 7],.cd (some 9) (some (6,false)) (xc (.func (.func 78) [] [])) [xt 8,xc (.func (.func 53) [] [])],so 10 .pick [xt 6,xc (.bool true),xt 9],mv 2 10] .ret))
def rs53:List SR:=[.t 2]
theorem fp53:PF 53 11 sc53 rs53:=⟨⟨_,_,{ bt:=fun i=>if i=78 then true else false,fz:=T1,nd:=N0,lv:=N0 },Tryz.func53,rfl,rfl,by kernel_rfl,by kernel_rfl⟩,by kernel_rfl⟩

/- slices.IndexFunc[[]int,int] -/
def sc54:SC:=(rg [so 4 .mv [xc (.int .i64 0)]] (.seq (rg [mv 6 0,ln 7 6,so 8 .mv [xc (.int .i64 0)]] (.block 0 (.loop [0,1,7,8] (rg [bi 9 .lss 8 7] (.seq (.cond (xt 9) .skip (.exit 0)) (.seq (.block 1 (rg [mv 10 8,mv 5 10] (rg [mv 11 1,mv 12 0,mv 13 5,ia 14 1 12 13,ld 15 1 14,.cd (some 16) none (xt 11) [xt 15]] (.cond (xt 16) (rg [mv 17 5,mv 4 17] .ret) .skip)))) (.reg [bc 18 .add 8 1,mv 8 18]))))))) (rg [so 4 .mv [xc (.int .i64 (-1))]] .ret)))
def rs54:List SR:=[.t 4]
theorem fp54:PF 54 19 sc54 rs54:=⟨⟨_,_,{ bt:=F0,fz:=T1,nd:=N0,lv:=fun i=>if i=3 then [0,1,7,8] else [] },Tryz.func54,rfl,rfl,by kernel_rfl,by kernel_rfl⟩,by kernel_rfl⟩

/- ostler/arith.calc$1 -/
def sc55:SC:=(rg [so 2 .mv [xc (.int .i64 0)]] (rg [ld 3 1 0,ld 4 1 1,bi 5 .add 3 4,mv 2 5] .ret))
def rs55:List SR:=[.t 2]
theorem fp55:PF 55 6 sc55 rs55:=⟨⟨_,_,{ bt:=F0,fz:=T1,nd:=N0,lv:=N0 },Tryz.func55,rfl,rfl,by kernel_rfl,by kernel_rfl⟩,by kernel_rfl⟩

/- ostler/arith.calc$2 -/
def sc56:SC:=(rg [so 2 .mv [xc (.int .i64 0)]] (rg [ld 3 1 0,ld 4 1 1,bi 5 .sub 3 4,mv 2 5] .ret))
def rs56:List SR:=[.t 2]
theorem fp56:PF 56 6 sc56 rs56:=⟨⟨_,_,{ bt:=F0,fz:=T1,nd:=N0,lv:=N0 },Tryz.func56,rfl,rfl,by kernel_rfl,by kernel_rfl⟩,by kernel_rfl⟩

/- ostler/arith.calc$3 -/
def sc57:SC:=(rg [so 2 .mv [xc (.int .i64 0)]] (rg [ld 3 1 0,ld 4 1 1,bi 5 .mul 3 4,mv 2 5] .ret))
def rs57:List SR:=[.t 2]
theorem fp57:PF 57 6 sc57 rs57:=⟨⟨_,_,{ bt:=F0,fz:=T1,nd:=N0,lv:=N0 },Tryz.func57,rfl,rfl,by kernel_rfl,by kernel_rfl⟩,by kernel_rfl⟩

/- ostler/arith.calc$4 -/
def sc58:SC:=(rg [so 2 .mv [xc (.int .i64 0)]] (rg [ld 3 1 0,ld 4 1 1,bi 5 .quo 3 4,mv 2 5] .ret))
def rs58:List SR:=[.t 2]
theorem fp58:PF 58 6 sc58 rs58:=⟨⟨_,_,{ bt:=F0,fz:=T1,nd:=N0,lv:=N0 },Tryz.func58,rfl,rfl,by kernel_rfl,by kernel_rfl⟩,by kernel_rfl⟩

/- ostler/arith.calc$5 -/
def sc59:SC:=(rg [so 2 .mv [xc (.int .i64 0)]] (rg [ld 3 1 0,ld 4 1 1,bi 5 .rem 3 4,mv 2 5] .ret))
def rs59:List SR:=[.t 2]
theorem fp59:PF 59 6 sc59 rs59:=⟨⟨_,_,{ bt:=F0,fz:=T1,nd:=N0,lv:=N0 },Tryz.func59,rfl,rfl,by kernel_rfl,by kernel_rfl⟩,by kernel_rfl⟩

/- ostler/arith.interval -/
def sc60:SC:=(rg [so 4 (.nilv true 4 33) [xc .nils]] (.seq (rg [mv 8 0,ln 9 8,bc 10 .eql 9 0,mv 11 10,.a (some 12) (some (11,false)) .mv [xt 1],.a (some 13) (some (11,false)) (.len false) [xt 12],.a (some 14) (some (11,false)) (.bin .eql) [xt 13,xc (.int .i64 0)],so 15 .pick [xt 11,xc (.bool true),xt 14]] (.cond (xt 15) (rg [so 4 (.nilv true 4 33) [xc .nils]] .ret) .skip)) (rg [mv 16 0,so 17 (.call 79) [xt 16],mv 18 1,so 19 (.call 80) [xt 18],mv 5 17,mv 6 19] (rg [mv 20 6,mv 21 5,bi 22 .sub 20 21,bc 23 .add 22 1,so 24 (.call 81) [xt 23]] (.seq (rg [mv 25 5,mv 7 25] (.block 0 (.loop [4,6,7] (.seq (rg [mv 26 7,mv 27 6,bi 28 .leq 26 27] (.cond (xt 28) .skip (.exit 0))) (.seq (.block 1 (.reg [mv 31 4,mv 32 7,so 33 (.call 82) [xt 32],so 34 (.bslice true 4 1 33 [(.int .u8 0),(.int .i64 0),(.str []),(.slice [] [])] [(0,4)]) [xt 33],.app 35 none true 4 33 (xt 31) (xt 34),mv 4 35])) (.reg [mv 29 7,bc 30 .add 29 1,mv 7 30])))))) (rg [mv 36 4,mv 4 36] .ret))))))
def rs60:List SR:=[.t 4]
theorem fp60:PF 60 37 sc60 rs60:=⟨⟨_,_,{ bt:=F0,fz:=T1,nd:=N0,lv:=fun i=>if i=7 then [4,6,7] else [] },Tryz.func60,rfl,rfl,by kernel_rfl,by kernel_rfl⟩,by kernel_rfl⟩

/- ostler/arith.integers -/
def sc61:SC:=(rg [so 2 (.nilv true 1 3) [xc .nils]] (.seq (rg [mv 5 0,ln 6 5,so 7 .mv [xc (.int .i64 0)]] (.block 0 (.loop [2,5,6,7] (rg [bi 8 .lss 7 6] (.seq (.cond (xt 8) .skip (.exit 0)) (.seq (.block 1 (rg [ia 9 4 5 7,lt 10 4 9,so 4 (.alloc [(.int .u8 0),(.int .i64 0),(.str []),.nils]) [],.st none (.c 4) (xt 4) (xt 10)] (rg [fa 11 0 4,ld 12 1 11,so 13 (.bin .eql) [xt 12,xc (.int .u8 1)]] (.cond (xt 13) (.reg [mv 14 2,fa 15 1 4,ld 16 1 15,so 17 (.bslice true 1 1 3 [(.int .i64 0)] [(0,1)]) [xt 16],.app 18 none true 1 3 (xt 14) (xt 17),mv 2 18]) .skip)))) (.reg [bc 19 .add 7 1,mv 7 19]))))))) (rg [mv 20 2,mv 2 20] .ret)))
def rs61:List SR:=[.t 2]
theorem fp61:PF 61 21 sc61 rs61:=⟨⟨_,_,{ bt:=F0,fz:=T1,nd:=N0,lv:=fun i=>if i=3 then [2,5,6,7] else [] },Tryz.func61,rfl,rfl,by kernel_rfl,by kernel_rfl⟩,by kernel_rfl⟩

/- ostler/arith.operation -/
def sc62:SC:=(rg [so 2 .box [xt 0],so 4 (.nilv true 4 33) [xc .nils]] (.seq (.spec (.frg [1,2])) (rg [so 5 (.nilv true 1 22) [xc .nils]] (.seq (.spec (.frg [1,2,5])) (.seq (rg [mv 14 1,ln 15 14,so 16 .mv [xc (.int .i64 0)]] (.block 0 (.loop [2,5,14,15,16] (rg [bi 17 .lss 16 15] (.seq (.cond (xt 17) .skip (.exit 0)) (.seq (.block 1 (rg [ia 18 1 14 16,ld 19 1 18,mv 7 19] (.reg [mv 20 5,mv 21 7,so 22 (.call 61) [xt 21],so 23 (.bslice true 1 1 22 [(.slice [] [])] [(0,1)]) [xt 22],.app 24 none true 1 22 (xt 20) (xt 23),mv 5 24]))) (.reg [bc 25 .add 16 1,mv 16 25]))))))) (.seq (.spec (.frg [2,5])) (rg [so 26 .mkmapC [],so 8 (.alloc [(.raw (.map none))]) [],.st none (.c 1) (xt 8) (xt 26)] (.seq (.spec (.frg [2,5,8])) (.seq (rg [mv 27 5,.cd (some 28) none (xc (.func (.func 83) [] [])) [xt 27]] (.block 2 (.rangeF 56 (xt 28) #[29] (.reg [mv 9 29]) (.block 3 (rg [ld 31 1 2,mv 32 9,.cd (some 33) none (xc (.func (.func 10) [] [])) [xt 31,xt 32],mv 30 33,so 34 (.extract 0) [xt 30],so 35 (.extract 1) [xt 30],mv 10 34,mv 11 35] (rg [mv 36 11] (.cond (xt 36) (rg [ld 37 1 8,mv 38 10,mv 39 10,.st none (.k (some .i64) (xt 38)) (xt 37) (xt 39)] (.reg [ld 40 1 8,so 41 (.ext .lenm) [xt 40],so 42 (.call 81) [xt 41]])) .skip))))))) (.seq (.spec (.frg [8])) (rg [so 12 (.nilv false 4 33) [xc .nils]] (.seq (.spec (.frg [8,12])) (.seq (.seq (.spec (.rng [ld 43 1 8] 44 (xt 43))) (.block 4 (.loop [12,44] (.seq (.spec (.nxt (xt 44) 45 46)) (.seq (.cond (xt 46) .skip (.exit 4)) (.block 5 (rg [so 47 (.ext .entry) [xt 44],so 48 (.extract 0) [xt 47],mv 13 48] (.reg [mv 49 12,mv 50 13,so 51 (.call 82) [xt 50],so 52 (.bslice true 4 1 33 [(.int .u8 0),(.int .i64 0),(.str []),(.slice [] [])] [(0,4)]) [xt 51],.app 53 none false 4 33 (xt 49) (xt 52),mv 12 53])))))))) (.seq (.spec (.frg [12])) (rg [mv 54 12,.cd (some 55) none (xc (.func (.func 84) [] [])) [xt 54],mv 4 55] .ret)))))))))))))))
def rs62:List SR:=[.t 4]
theorem fp62:PF 62 56 sc62 rs62:=⟨⟨_,_,{ bt:=fun i=>if i=10 then true else if i=83 then true else if i=84 then true else false,fz:=fun i=>if i=12 then false else if i=53 then false else true,nd:=N0,lv:=fun i=>if i=4 then [2,5,14,15,16] else if i=17 then [12,44] else [],fg:=fun i=>if i=2 then some [1,2] else if i=3 then some [1,2,5] else if i=8 then some [2,5] else if i=9 then some [2,5,8] else if i=15 then some [8] else if i=16 then some [8,12] else if i=20 then some [12] else none },Tryz.func62,rfl,rfl,by kernel_rfl,by kernel_rfl⟩,by kernel_rfl⟩

/- ostler/arith.functions -/
def sc63:SC:=(rg [so 2 .box [xt 0],so 4 (.alloc [.nils]) []] (.seq (.spec (.frg [1,2,4])) (.seq (rg [mv 9 1,.cd (some 10) none (xc (.func (.func 85) [] [])) [xt 9,xc (.func (.func 86) [] [])]] (.cond (xt 10) (rg [.st none (.c 1) (xt 4) (xc .nils)] .ret) .skip)) (.seq (.spec (.frg [1,2,4])) (rg [so 5 .mv [xc (.int .i64 1)]] (.seq (.spec (.frg [1,2,4,5])) (.seq (rg [mv 11 1,ln 12 11,so 13 .mv [xc (.int .i64 0)]] (.block 0 (.loop [1,2,4,5,11,12,13] (rg [bi 14 .lss 13 12] (.seq (.cond (xt 14) .skip (.exit 0)) (.seq (.block 1 (rg [ia 15 1 11 13,ld 16 1 15,mv 7 16] (.reg [mv 17 5,mv 18 7,ln 19 18,bi 20 .mul 17 19,so 21 (.call 81) [xt 20],mv 5 21]))) (.reg [bc 22 .add 13 1,mv 13 22]))))))) (.seq (.spec (.frg [1,2,4])) (.seq (rg [mv 23 1,.cd (some 24) none (xc (.func (.func 87) [] [])) [xt 23]] (.block 2 (.rangeF 36 (xt 24) #[25] (.reg [mv 8 25]) (.block 3 (.drw [0,0,0,4,14,1,0,127,255,511,255] [ld 26 1 4,ld 27 1 2,mv 28 8,.cd (some 29) none (xc (.func (.func 88) [] [])) [xt 28],so 30 (.build [(.int .u8 0),(.int .i64 0),(.str []),(.slice [] [])] [(0,1),(2,1),(3,1)]) [xc (.int .u8 4),xt 27,xt 29],ln 31 26,so 32 (.bslice true 4 1 33 [(.int .u8 0),(.int .i64 0),(.str []),(.slice [] [])] [(0,4)]) [xc (.agg [(.int .u8 0),(.int .i64 0),(.str []),(.slice [] [])])],.app 33 none false 4 33 (xt 26) (xt 32),ia 34 4 33 31,.st none (.c 4) (xt 34) (xt 30),.st none (.c 1) (xt 4) (xt 33)]))))) (.seq (.spec (.frg [4])) (rg [ld 35 1 4,.st none (.c 1) (xt 4) (xt 35)] .ret)))))))))))
def rs63:List SR:=[.cell 4 false 1]
theorem fp63:PF 63 36 sc63 rs63:=⟨⟨_,_,{ bt:=fun i=>if i=85 then true else if i=87 then true else if i=88 then true else false,fz:=fun i=>if i=33 then false else true,nd:=fun i=>if i=11 then [0,0,0,4,14,1,0,127,255,511,255] else [],lv:=fun i=>if i=6 then [1,2,4,5,11,12,13] else [],fg:=fun i=>if i=2 then some [1,2,4] else if i=4 then some [1,2,4] else if i=5 then some [1,2,4,5] else if i=10 then some [1,2,4] else if i=13 then some [4] else none },Tryz.func63,rfl,rfl,by kernel_rfl,by kernel_rfl⟩,by kernel_rfl⟩

/- ostler/term.subterms -/
def sc64:SC:=(rg [so 1 .box [xt 0],so 2 .mv [xc .nilf]] (rg [so 3 (.mkfn (.func 89) 0) [xt 1],mv 2 3] .ret))
def rs64:List SR:=[.t 2]
theorem fp64:PF 64 4 sc64 rs64:=⟨⟨_,_,{ bt:=F0,fz:=T1,nd:=N0,lv:=N0 },Tryz.func64,rfl,rfl,by kernel_rfl,by kernel_rfl⟩,by kernel_rfl⟩

/- (ostler/term.node).shape$1 -/
def sc66:SC:=(rg [so 1 .mv [xc (.bool false)]] (rg [fa 2 0 0,fa 3 1 2,ld 4 1 3,bc 5 .geq 4 (-2147483647),mv 6 5,.a (some 7) (some (6,true)) (.faddr 0) [xt 0],.a (some 8) (some (6,true)) (.faddr 1) [xt 7],.a (some 9) (some (6,true)) (.load false 1) [xt 8],.a (some 10) (some (6,true)) (.bin .leq) [xt 9,xc (.int .i64 2147483647)],so 11 .pick [xt 6,xt 10,xc (.bool false)],mv 12 11,.a (some 13) (some (12,true)) (.faddr 0) [xt 0],.a (some 14) (some (12,true)) (.faddr 2) [xt 13],.a (some 15) (some (12,true)) (.load false 1) [xt 14],.a (some 16) (some (12,true)) (.bin .eql) [xt 15,xc (.str [])],so 17 .pick [xt 12,xt 16,xc (.bool false)],mv 18 17,.a (some 19) (some (18,true)) (.load true 4) [xt 0],.a (some 20) (some (18,true)) (.call 67) [xt 19,xc (.int .i64 0),xc (.int .i64 0)],so 21 .pick [xt 18,xt 20,xc (.bool false)],mv 1 21] .ret))
def rs66:List SR:=[.t 1]
theorem fp66:PF 66 22 sc66 rs66:=⟨⟨_,_,{ bt:=F0,fz:=T1,nd:=N0,lv:=N0 },Tryz.func66,rfl,rfl,by kernel_rfl,by kernel_rfl⟩,by kernel_rfl⟩

/- (ostler/term.node).args -/
def sc67:SC:=(rg [so 3 .box [xt 0],so 6 .mv [xc (.bool false)]] (rg [fa 7 0 3,fa 8 3 7,ld 9 1 8,ln 10 9,mv 11 1,bi 12 .geq 10 11,mv 13 12,.a (some 14) (some (13,true)) (.faddr 0) [xt 3],.a (some 15) (some (13,true)) (.faddr 3) [xt 14],.a (some 16) (some (13,true)) (.load false 1) [xt 15],.a (some 17) (some (13,true)) (.len false) [xt 16],.a (some 18) (some (13,true)) .mv [xt 2],.a (some 19) (some (13,true)) (.bin .leq) [xt 17,xt 18],so 20 .pick [xt 13,xt 19,xc (.bool false)],mv 6 20] .ret))
def rs67:List SR:=[.t 6]
theorem fp67:PF 67 21 sc67 rs67:=⟨⟨_,_,{ bt:=F0,fz:=T1,nd:=N0,lv:=N0 },Tryz.func67,rfl,rfl,by kernel_rfl,by kernel_rfl⟩,by kernel_rfl⟩

/- (ostler/term.node).shape$2 -/
def sc68:SC:=(rg [so 2 .mv [xc (.bool false)]] (rg [ld 3 1 0,mv 4 3,.a (some 5) (some (4,true)) (.faddr 0) [xt 1],.a (some 6) (some (4,true)) (.faddr 2) [xt 5],.a (some 7) (some (4,true)) (.load false 1) [xt 6],.a (some 8) (some (4,true)) (.call 69) [xt 7],so 9 .pick [xt 4,xt 8,xc (.bool false)],mv 10 9,.a (some 11) (some (10,true)) (.load true 4) [xt 1],.a (some 12) (some (10,true)) (.call 67) [xt 11,xc (.int .i64 0),xc (.int .i64 0)],so 13 .pick [xt 10,xt 12,xc (.bool false)],mv 2 13] .ret))
def rs68:List SR:=[.t 2]
theorem fp68:PF 68 14 sc68 rs68:=⟨⟨_,_,{ bt:=F0,fz:=T1,nd:=N0,lv:=N0 },Tryz.func68,rfl,rfl,by kernel_rfl,by kernel_rfl⟩,by kernel_rfl⟩

/- ostler/term.Symbol -/
def sc69:SC:=(rg [so 2 .mv [xc (.bool false)]] (rg [mv 3 0,.cd (some 4) none (xc (.func (.func 92) [] [])) [xt 3,xc (.func (.func 93) [] [])],mv 5 4,.a (some 6) (some (5,true)) .mv [xt 0],.a (some 7) (some (5,true)) (.bin .neq) [xt 6,xc (.str [110,111,116])],so 8 .pick [xt 5,xt 7,xc (.bool false)],mv 2 8] .ret))
def rs69:List SR:=[.t 2]
theorem fp69:PF 69 9 sc69 rs69:=⟨⟨_,_,{ bt:=fun i=>if i=92 then true else false,fz:=T1,nd:=N0,lv:=N0 },Tryz.func69,rfl,rfl,by kernel_rfl,by kernel_rfl⟩,by kernel_rfl⟩

/- (ostler/term.node).shape$3 -/
def sc70:SC:=(rg [so 2 .mv [xc (.bool false)]] (rg [ld 3 1 0,mv 4 3,.a (some 5) (some (4,true)) (.faddr 0) [xt 1],.a (some 6) (some (4,true)) (.faddr 2) [xt 5],.a (some 7) (some (4,true)) (.load false 1) [xt 6],.a (some 8) (some (4,true)) (.call 71) [xt 7],so 9 .pick [xt 4,xt 8,xc (.bool false)],mv 10 9,.a (some 11) (some (10,true)) (.load true 4) [xt 1],.a (some 12) (some (10,true)) (.call 67) [xt 11,xc (.int .i64 0),xc (.int .i64 0)],so 13 .pick [xt 10,xt 12,xc (.bool false)],mv 2 13] .ret))
def rs70:List SR:=[.t 2]
theorem fp70:PF 70 14 sc70 rs70:=⟨⟨_,_,{ bt:=F0,fz:=T1,nd:=N0,lv:=N0 },Tryz.func70,rfl,rfl,by kernel_rfl,by kernel_rfl⟩,by kernel_rfl⟩

/- ostler/term.Variable -/
def sc71:SC:=(rg [so 2 .mv [xc (.bool false)]] (rg [mv 6 0,so 7 (.call 94) [xt 6,xc (.str [95])],mv 5 7,so 8 (.extract 0) [xt 5],so 9 (.extract 1) [xt 5],mv 3 8,mv 4 9] (rg [mv 10 0,.cd (some 11) none (xc (.func (.func 92) [] [])) [xt 10,xc (.func (.func 95) [] [])],mv 12 11,.a (some 13) (some (12,false)) .mv [xt 4],.a (some 14) (some (12,false)) .mv [xt 13],.a (some 15) (some (14,true)) .mv [xt 3],.cd (some 16) (some (14,true)) (xc (.func (.func 96) [] [])) [xt 15,xc (.func (.func 97) [] [])],.a (some 17) (some (12,false)) .pick [xt 14,xt 16,xc (.bool false)],.a (some 18) (some (12,false)) .mv [xt 17],.a (some 19) (some (18,true)) .mv [xt 0],.a (some 20) (some (18,true)) (.len true) [xt 19],.a (some 21) (some (18,true)) (.bin .leq) [xt 20,xc (.int .i64 32)],.a (some 22) (some (12,false)) .pick [xt 18,xt 21,xc (.bool false)],so 23 .pick [xt 12,xc (.bool true),xt 22],mv 2 23] .ret)))
def rs71:List SR:=[.t 2]
theorem fp71:PF 71 24 sc71 rs71:=⟨⟨_,_,{ bt:=fun i=>if i=92 then true else if i=96 then true else false,fz:=T1,nd:=N0,lv:=N0 },Tryz.func71,rfl,rfl,by kernel_rfl,by kernel_rfl⟩,by kernel_rfl⟩

/- (ostler/term.node).shape$4 -/
def sc72:SC:=(rg [so 2 .mv [xc (.bool false)]] (rg [ld 3 1 0,mv 4 3,.a (some 5) (some (4,true)) (.faddr 0) [xt 1],.a (some 6) (some (4,true)) (.faddr 2) [xt 5],.a (some 7) (some (4,true)) (.load false 1) [xt 6],.a (some 8) (some (4,true)) (.call 69) [xt 7],so 9 .pick [xt 4,xt 8,xc (.bool false)],mv 10 9,.a (some 11) (some (10,true)) (.load true 4) [xt 1],.a (some 12) (some (10,true)) (.call 67) [xt 11,xc (.int .i64 1),xc (.int .i64 8)],so 13 .pick [xt 10,xt 12,xc (.bool false)],mv 2 13] .ret))
def rs72:List SR:=[.t 2]
theorem fp72:PF 72 14 sc72 rs72:=⟨⟨_,_,{ bt:=F0,fz:=T1,nd:=N0,lv:=N0 },Tryz.func72,rfl,rfl,by kernel_rfl,by kernel_rfl⟩,by kernel_rfl⟩

/- (ostler/term.node).shape$5 -/
def sc73:SC:=(rg [so 3 .mv [xc (.bool false)]] (rg [ld 4 1 0,mv 5 4,.a (some 6) (some (5,true)) (.load false 1) [xt 1],so 7 .pick [xt 5,xt 6,xc (.bool false)],mv 8 7,.a (some 9) (some (8,true)) (.load true 4) [xt 2],.a (some 10) (some (8,true)) (.call 67) [xt 9,xc (.int .i64 2),xc (.int .i64 2)],.a (some 11) (some (8,true)) .mv [xt 10],.a (some 12) (some (11,false)) (.faddr 0) [xt 2],.a (some 13) (some (11,false)) (.faddr 2) [xt 12],.a (some 14) (some (11,false)) (.load false 1) [xt 13],.a (some 15) (some (11,false)) (.bin .eql) [xt 14,xc (.str [45])],.a (some 16) (some (11,false)) .mv [xt 15],.a (some 17) (some (16,true)) (.load true 4) [xt 2],.a (some 18) (some (16,true)) (.call 67) [xt 17,xc (.int .i64 1),xc (.int .i64 1)],.a (some 19) (some (11,false)) .pick [xt 16,xt 18,xc (.bool false)],.a (some 20) (some (8,true)) .pick [xt 11,xc (.bool true),xt 19],so 21 .pick [xt 8,xt 20,xc (.bool false)],mv 3 21] .ret))
def rs73:List SR:=[.t 3]
theorem fp73:PF 73 22 sc73 rs73:=⟨⟨_,_,{ bt:=F0,fz:=T1,nd:=N0,lv:=N0 },Tryz.func73,rfl,rfl,by kernel_rfl,by kernel_rfl⟩,by kernel_rfl⟩

/- (ostler/term.node).shape$6 -/
def sc74:SC:=(rg [so 1 .mv [xc (.bool false)]] (rg [fa 2 0 0,fa 3 1 2,ld 4 1 3,bc 5 .eql 4 0,mv 6 5,.a (some 7) (some (6,true)) (.faddr 0) [xt 0],.a (some 8) (some (6,true)) (.faddr 2) [xt 7],.a (some 9) (some (6,true)) (.load false 1) [xt 8],.a (some 10) (some (6,true)) (.bin .eql) [xt 9,xc (.str [])],so 11 .pick [xt 6,xt 10,xc (.bool false)],mv 12 11,.a (some 13) (some (12,true)) (.load true 4) [xt 0],.a (some 14) (some (12,true)) (.call 67) [xt 13,xc (.int .i64 2),xc (.int .i64 2)],so 15 .pick [xt 12,xt 14,xc (.bool false)],mv 1 15] .ret))
def rs74:List SR:=[.t 1]
theorem fp74:PF 74 16 sc74 rs74:=⟨⟨_,_,{ bt:=F0,fz:=T1,nd:=N0,lv:=N0 },Tryz.func74,rfl,rfl,by kernel_rfl,by kernel_rfl⟩,by kernel_rfl⟩

/- cmp.isNaN[int] -/
def sc75:SC:=(rg [so 2 .mv [xc (.bool false)]] (rg [mv 3 0,mv 4 0,bi 5 .neq 3 4,mv 2 5] .ret))
def rs75:List SR:=[.t 2]
theorem fp75:PF 75 6 sc75 rs75:=⟨⟨_,_,{ bt:=F0,fz:=T1,nd:=N0,lv:=N0 },Tryz.func75,rfl,rfl,by kernel_rfl,by kernel_rfl⟩,by kernel_rfl⟩

/- slices.Index[[]uint8,uint8] -/
def sc76:SC:=(rg [so 4 .mv [xc (.int .i64 0)]] (.seq (rg [mv 6 0,ln 7 6,so 8 .mv [xc (.int .i64 0)]] (.block 0 (.loop [0,1,7,8] (rg [bi 9 .lss 8 7] (.seq (.cond (xt 9) .skip (.exit 0)) (.seq (.block 1 (rg [mv 10 8,mv 5 10] (rg [mv 11 1,mv 12 0,mv 13 5,ia 14 1 12 13,ld 15 1 14,bi 16 .eql 11 15] (.cond (xt 16) (rg [mv 17 5,mv 4 17] .ret) .skip)))) (.reg [bc 18 .add 8 1,mv 8 18]))))))) (rg [so 4 .mv [xc (.int .i64 (-1))]] .ret)))
def rs76:List SR:=[.t 4]
theorem fp76:PF 76 19 sc76 rs76:=⟨⟨_,_,{ bt:=F0,fz:=T1,nd:=N0,lv:=fun i=>if i=3 then [0,1,7,8] else [] },Tryz.func76,rfl,rfl,by kernel_rfl,by kernel_rfl⟩,by kernel_rfl⟩

/- slices.ContainsFunc[[]ostler/api.Term,ostler/api.Term] -/
def sc78:SC:=(rg [so 4 .mv [xc (.bool false)]] (rg [mv 5 0,mv 6 1,.cd (some 7) none (xc (.func (.func 99) [] [])) [xt 5,xt 6],bc 8 .geq 7 0,mv 4 8] .ret))
def rs78:List SR:=[.t 4]
theorem fp78:PF 78 9 sc78 rs78:=⟨⟨_,_,{ bt:=fun i=>if i=99 then true else false,fz:=T1,nd:=N0,lv:=N0 },Tryz.func78,rfl,rfl,by kernel_rfl,by kernel_rfl⟩,by kernel_rfl⟩

/- slices.Min[[]int,int] -/
def sc79:SC:=(rg [so 2 .mv [xc (.int .i64 0)]] (.seq (rg [mv 5 0,ln 6 5,bc 7 .lss 6 1] (.cond (xt 7) (.spec (.pan [so 8 (.ext (.mkif 9)) [xc (.str [115,108,105,99,101,115,46,77,105,110,58,32,101,109,112,116,121,32,108,105,115,116])],.a none none .pnk [xt 8]])) .skip)) (rg [mv 9 0,so 10 (.iaddr 1) [xt 9,xc (.int .i64 0)],ld 11 1 10,mv 3 11] (.seq (rg [so 4 .mv [xc (.int .i64 1)]] (.block 0 (.loop [0,3,4] (.seq (rg [mv 12 4,mv 13 0,ln 14 13,bi 15 .lss 12 14] (.cond (xt 15) .skip (.exit 0))) (.seq (.block 1 (.reg [mv 18 3,mv 19 0,mv 20 4,ia 21 1 19 20,ld 22 1 21,so 23 (.mm false) [xt 18,xt 22],mv 3 23])) (.reg [mv 16 4,bc 17 .add 16 1,mv 4 17])))))) (rg [mv 24 3,mv 2 24] .ret)))))
def rs79:List SR:=[.t 2]
theorem fp79:PF 79 25 sc79 rs79:=⟨⟨_,_,{ bt:=F0,fz:=T1,nd:=N0,lv:=fun i=>if i=6 then [0,3,4] else [] },Tryz.func79,rfl,rfl,by kernel_rfl,by kernel_rfl⟩,by kernel_rfl⟩

/- slices.Max[[]int,int] -/
def sc80:SC:=(rg [so 2 .mv [xc (.int .i64 0)]] (.seq (rg [mv 5 0,ln 6 5,bc 7 .lss 6 1] (.cond (xt 7) (.spec (.pan [so 8 (.ext (.mkif 9)) [xc (.str [115,108,105,99,101,115,46,77,97,120,58,32,101,109,112,116,121,32,108,105,115,116])],.a none none .pnk [xt 8]])) .skip)) (rg [mv 9 0,so 10 (.iaddr 1) [xt 9,xc (.int .i64 0)],ld 11 1 10,mv 3 11] (.seq (rg [so 4 .mv [xc (.int .i64 1)]] (.block 0 (.loop [0,3,4] (.seq (rg [mv 12 4,mv 13 0,ln 14 13,bi 15 .lss 12 14] (.cond (xt 15) .skip (.exit 0))) (.seq (.block 1 (.reg [mv 18 3,mv 19 0,mv 20 4,ia 21 1 19 20,ld 22 1 21,so 23 (.mm true) [xt 18,xt 22],mv 3 23])) (.reg [mv 16 4,bc 17 .add 16 1,mv 4 17])))))) (rg [mv 24 3,mv 2 24] .ret)))))
def rs80:List SR:=[.t 2]
theorem fp80:PF 80 25 sc80 rs80:=⟨⟨_,_,{ bt:=F0,fz:=T1,nd:=N0,lv:=fun i=>if i=6 then [0,3,4] else [] },Tryz.func80,rfl,rfl,by kernel_rfl,by kernel_rfl⟩,by kernel_rfl⟩

/- ostler/arith.limited -/
def sc81:SC:=(rg [so 2 .mv [xc (.int .i64 0)]] (.seq (rg [mv 3 0,bc 4 .gtr 3 1000] (.cond (xt 4) (.spec (.pan [so 5 (.build [] []) [],so 6 (.ext (.mkif 59)) [xt 5],.a none none .pnk [xt 6]])) .skip)) (rg [mv 7 0,mv 2 7] .ret)))
def rs81:List SR:=[.t 2]
theorem fp81:PF 81 8 sc81 rs81:=⟨⟨_,_,{ bt:=F0,fz:=T1,nd:=N0,lv:=N0 },Tryz.func81,rfl,rfl,by kernel_rfl,by kernel_rfl⟩,by kernel_rfl⟩

/- ostler/arith.number -/
def sc82:SC:=(rg [so 2 (.alloc [(.int .u8 0),(.int .i64 0),(.str []),.nils]) []] (rg [mv 3 0,so 4 (.build [(.int .u8 0),(.int .i64 0),(.str []),(.slice [] [])] [(0,1),(1,1)]) [xc (.int .u8 1),xt 3],.st none (.c 4) (xt 2) (xt 4)] .ret))
def rs82:List SR:=[.cell 2 true 4]
theorem fp82:PF 82 5 sc82 rs82:=⟨⟨_,_,{ bt:=F0,fz:=T1,nd:=N0,lv:=N0 },Tryz.func82,rfl,rfl,by kernel_rfl,by kernel_rfl⟩,by kernel_rfl⟩

/- ostler/arith.rows[int] -/
def sc83:SC:=(rg [so 1 .box [xt 0],so 2 .mv [xc .nilf]] (rg [so 3 (.mkfn (.func 100) 0) [xt 1],mv 2 3] .ret))
def rs83:List SR:=[.t 2]
theorem fp83:PF 83 4 sc83 rs83:=⟨⟨_,_,{ bt:=F0,fz:=T1,nd:=N0,lv:=N0 },Tryz.func83,rfl,rfl,by kernel_rfl,by kernel_rfl⟩,by kernel_rfl⟩

/- ostler/arith.set -/
def sc84:SC:=(rg [so 2 (.nilv true 4 33) [xc .nils]] (rg [mv 3 0,.cd (some 4) none (xc (.func (.func 102) [] [])) [xt 3,xc (.func (.func 24) [] [])]] (rg [mv 5 0,.cd (some 6) none (xc (.func (.func 103) [] [])) [xt 5,xc (.func (.func 19) [] [])],mv 0 6] (rg [mv 7 0,ln 8 7,so 9 (.call 81) [xt 8]] (rg [mv 10 0,mv 2 10] .ret)))))
def rs84:List SR:=[.t 2]
theorem fp84:PF 84 11 sc84 rs84:=⟨⟨_,_,{ bt:=fun i=>if i=102 then true else if i=103 then true else false,fz:=T1,nd:=N0,lv:=N0 },Tryz.func84,rfl,rfl,by kernel_rfl,by kernel_rfl⟩,by kernel_rfl⟩

/- slices.ContainsFunc[[][]ostler/api.Term,[]ostler/api.Term] -/
def sc85:SC:=(rg [so 4 .mv [xc (.bool false)]] (rg [mv 5 0,mv 6 1,.cd (some 7) none (xc (.func (.func 104) [] [])) [xt 5,xt 6],bc 8 .geq 7 0,mv 4 8] .ret))
def rs85:List SR:=[.t 4]
theorem fp85:PF 85 9 sc85 rs85:=⟨⟨_,_,{ bt:=fun i=>if i=104 then true else false,fz:=T1,nd:=N0,lv:=N0 },Tryz.func85,rfl,rfl,by kernel_rfl,by kernel_rfl⟩,by kernel_rfl⟩

/- ostler/arith.functions$1 -/
def sc86:SC:=(rg [so 2 .mv [xc (.bool false)]] (rg [mv 3 0,ln 4 3,bc 5 .eql 4 0,mv 2 5] .ret))
def rs86:List SR:=[.t 2]
theorem fp86:PF 86 6 sc86 rs86:=⟨⟨_,_,{ bt:=F0,fz:=T1,nd:=N0,lv:=N0 },Tryz.func86,rfl,rfl,by kernel_rfl,by kernel_rfl⟩,by kernel_rfl⟩

/- ostler/arith.rows[ostler/api.Term] -/
def sc87:SC:=(rg [so 1 .box [xt 0],so 2 .mv [xc .nilf]] (rg [so 3 (.mkfn (.func 105) 0) [xt 1],mv 2 3] .ret))
def rs87:List SR:=[.t 2]
theorem fp87:PF 87 4 sc87 rs87:=⟨⟨_,_,{ bt:=F0,fz:=T1,nd:=N0,lv:=N0 },Tryz.func87,rfl,rfl,by kernel_rfl,by kernel_rfl⟩,by kernel_rfl⟩

/- slices.Clone[[]ostler/api.Term,ostler/api.Term] -/
def sc88:SC:=(rg [so 2 (.nilv true 4 33) [xc .nils]] (.seq (rg [mv 3 0,so 4 (.ext (.eqs3 false)) [xt 3,xc .nils]] (.cond (xt 4) (rg [so 2 (.nilv true 4 33) [xc .nils]] .ret) .skip)) (rg [so 5 (.bslice true 4 0 33 [] []) [],mv 6 0,.app 7 none true 4 33 (xt 5) (xt 6),mv 2 7] .ret)))
def rs88:List SR:=[.t 2]
theorem fp88:PF 88 8 sc88 rs88:=⟨⟨_,_,{ bt:=F0,fz:=T1,nd:=N0,lv:=N0 },Tryz.func88,rfl,rfl,by kernel_rfl,by kernel_rfl⟩,by kernel_rfl⟩

/- ostler/term.subterms$1 -/
def sc89:SC:=(.reg [lt 3 4 1,mv 4 0,.cd (some 5) none (xc (.func (.func 90) [] [])) [xt 3,xt 4]])
def rs89:List SR:=[]
theorem fp89:PF 89 6 sc89 rs89:=⟨⟨_,_,{ bt:=fun i=>if i=90 then true else false,fz:=T1,nd:=N0,lv:=N0 },Tryz.func89,rfl,rfl,by kernel_rfl,by kernel_rfl⟩,by kernel_rfl⟩

/- ostler/term.visit -/
def sc90:SC:=(rg [so 2 .box [xt 0],so 4 .mv [xc (.bool false)]] (.seq (rg [mv 7 1,lt 8 4 2,.cd (some 9) none (xt 7) [xt 8],so 10 (.un .not) [xt 9]] (.cond (xt 10) (rg [so 4 .mv [xc (.bool false)]] .ret) .skip)) (.seq (rg [fa 11 3 2,ld 12 1 11,ln 13 12,so 14 .mv [xc (.int .i64 0)]] (.block 0 (.loop [1,12,13,14] (rg [bi 15 .lss 14 13] (.seq (.cond (xt 15) .skip (.exit 0)) (.seq (.block 1 (rg [ia 16 4 12 14,lt 17 4 16,so 6 (.alloc [(.int .u8 0),(.int .i64 0),(.str []),.nils]) [],.st none (.c 4) (xt 6) (xt 17)] (rg [lt 18 4 6,mv 19 1,.cd (some 20) none (xc (.func (.func 90) [] [])) [xt 18,xt 19],so 21 (.un .not) [xt 20]] (.cond (xt 21) (rg [so 4 .mv [xc (.bool false)]] .ret) .skip)))) (.reg [bc 22 .add 14 1,mv 14 22]))))))) (rg [so 4 .mv [xc (.bool true)]] .ret))))
def rs90:List SR:=[.t 4]
theorem fp90:PF 90 23 sc90 rs90:=⟨⟨_,_,{ bt:=fun i=>if i=90 then true else false,fz:=T1,nd:=N0,lv:=fun i=>if i=5 then [1,12,13,14] else [] },Tryz.func90,rfl,rfl,by kernel_rfl,by kernel_rfl⟩,by kernel_rfl⟩

/- ostler/term.word -/
def sc92:SC:=(rg [so 4 .mv [xc (.bool false)]] (rg [mv 6 0,so 7 (.call 108) [xt 6,xc (.str [95])],mv 5 7] (rg [mv 8 5,so 9 (.bin .neq) [xt 8,xc (.str [])],mv 10 9,.a (some 11) (some (10,true)) .mv [xt 1],.a (some 12) (some (10,true)) .mv [xt 5],.a (some 13) (some (10,true)) .index [xt 12,xc (.int .i64 0)],.cd (some 14) (some (10,true)) (xt 11) [xt 13],so 15 .pick [xt 10,xt 14,xc (.bool false)],mv 16 15,.a (some 17) (some (16,true)) .mv [xt 5],.cd (some 18) (some (16,true)) (xc (.func (.func 96) [] [])) [xt 17,xc (.func (.func 109) [] [])],so 19 .pick [xt 16,xt 18,xc (.bool false)],mv 20 19,.a (some 21) (some (20,true)) .mv [xt 0],.a (some 22) (some (20,true)) (.len true) [xt 21],.a (some 23) (some (20,true)) (.bin .leq) [xt 22,xc (.int .i64 32)],so 24 .pick [xt 20,xt 23,xc (.bool false)],mv 4 24] .ret)))
def rs92:List SR:=[.t 4]
theorem fp92:PF 92 25 sc92 rs92:=⟨⟨_,_,{ bt:=fun i=>if i=96 then true else false,fz:=T1,nd:=N0,lv:=N0 },Tryz.func92,rfl,rfl,by kernel_rfl,by kernel_rfl⟩,by kernel_rfl⟩

/- ostler/term.lower -/
def sc93:SC:=(rg [so 2 .mv [xc (.bool false)]] (rg [mv 3 0,so 4 (.bin .geq) [xt 3,xc (.int .u8 97)],mv 5 4,.a (some 6) (some (5,true)) .mv [xt 0],.a (some 7) (some (5,true)) (.bin .leq) [xt 6,xc (.int .u8 122)],so 8 .pick [xt 5,xt 7,xc (.bool false)],mv 2 8] .ret))
def rs93:List SR:=[.t 2]
theorem fp93:PF 93 9 sc93 rs93:=⟨⟨_,_,{ bt:=F0,fz:=T1,nd:=N0,lv:=N0 },Tryz.func93,rfl,rfl,by kernel_rfl,by kernel_rfl⟩,by kernel_rfl⟩

/- strings.CutPrefix -/
def sc94:SC:=(rg [so 4 .mv [xc (.str [])],so 5 .mv [xc (.bool false)]] (rg [mv 6 0,mv 7 1,so 8 (.call 110) [xt 6,xt 7],so 9 (.extract 0) [xt 8],so 10 (.extract 1) [xt 8],mv 4 9,mv 5 10] .ret))
def rs94:List SR:=[.t 4,.t 5]
theorem fp94:PF 94 11 sc94 rs94:=⟨⟨_,_,{ bt:=F0,fz:=T1,nd:=N0,lv:=N0 },Tryz.func94,rfl,rfl,by kernel_rfl,by kernel_rfl⟩,by kernel_rfl⟩

/- ostler/term.upper -/
def sc95:SC:=(rg [so 2 .mv [xc (.bool false)]] (rg [mv 3 0,so 4 (.bin .geq) [xt 3,xc (.int .u8 65)],mv 5 4,.a (some 6) (some (5,true)) .mv [xt 0],.a (some 7) (some (5,true)) (.bin .leq) [xt 6,xc (.int .u8 90)],so 8 .pick [xt 5,xt 7,xc (.bool false)],mv 2 8] .ret))
def rs95:List SR:=[.t 2]
theorem fp95:PF 95 9 sc95 rs95:=⟨⟨_,_,{ bt:=F0,fz:=T1,nd:=N0,lv:=N0 },Tryz.func95,rfl,rfl,by kernel_rfl,by kernel_rfl⟩,by kernel_rfl⟩

/- ostler/term.all -/
def sc96:SC:=(rg [so 4 .mv [xc (.bool false)]] (.seq (rg [mv 6 0,so 7 (.len true) [xt 6],so 8 .mv [xc (.int .i64 0)]] (.block 0 (.loop [0,1,7,8] (rg [bi 9 .lss 8 7] (.seq (.cond (xt 9) .skip (.exit 0)) (.seq (.block 1 (rg [mv 10 8,mv 5 10] (rg [mv 11 1,mv 12 0,mv 13 5,so 14 .index [xt 12,xt 13],.cd (some 15) none (xt 11) [xt 14],so 16 (.un .not) [xt 15]] (.cond (xt 16) (rg [so 4 .mv [xc (.bool false)]] .ret) .skip)))) (.reg [bc 17 .add 8 1,mv 8 17]))))))) (rg [so 4 .mv [xc (.bool true)]] .ret)))
def rs96:List SR:=[.t 4]
theorem fp96:PF 96 18 sc96 rs96:=⟨⟨_,_,{ bt:=F0,fz:=T1,nd:=N0,lv:=fun i=>if i=3 then [0,1,7,8] else [] },Tryz.func96,rfl,rfl,by kernel_rfl,by kernel_rfl⟩,by kernel_rfl⟩

/- ostler/term.digit -/
def sc97:SC:=(rg [so 2 .mv [xc (.bool false)]] (rg [mv 3 0,so 4 (.bin .geq) [xt 3,xc (.int .u8 48)],mv 5 4,.a (some 6) (some (5,true)) .mv [xt 0],.a (some 7) (some (5,true)) (.bin .leq) [xt 6,xc (.int .u8 57)],so 8 .pick [xt 5,xt 7,xc (.bool false)],mv 2 8] .ret))
def rs97:List SR:=[.t 2]
theorem fp97:PF 97 9 sc97 rs97:=⟨⟨_,_,{ bt:=F0,fz:=T1,nd:=N0,lv:=N0 },Tryz.func97,rfl,rfl,by kernel_rfl,by kernel_rfl⟩,by kernel_rfl⟩

/- slices.IndexFunc[[]ostler/api.Term,ostler/api.Term] -/
def sc99:SC:=(rg [so 4 .mv [xc (.int .i64 0)]] (.seq (rg [mv 6 0,ln 7 6,so 8 .mv [xc (.int .i64 0)]] (.block 0 (.loop [0,1,7,8] (rg [bi 9 .lss 8 7] (.seq (.cond (xt 9) .skip (.exit 0)) (.seq (.block 1 (rg [mv 10 8,mv 5 10] (rg [mv 11 1,mv 12 0,mv 13 5,ia 14 4 12 13,lt 15 4 14,.cd (some 16) none (xt 11) [xt 15]] (.cond (xt 16) (rg [mv 17 5,mv 4 17] .ret) .skip)))) (.reg [bc 18 .add 8 1,mv 8 18]))))))) (rg [so 4 .mv [xc (.int .i64 (-1))]] .ret)))
def rs99:List SR:=[.t 4]
theorem fp99:PF 99 19 sc99 rs99:=⟨⟨_,_,{ bt:=F0,fz:=T1,nd:=N0,lv:=fun i=>if i=3 then [0,1,7,8] else [] },Tryz.func99,rfl,rfl,by kernel_rfl,by kernel_rfl⟩,by kernel_rfl⟩

/- ostler/arith.rows[int]$1 -/
def sc100:SC:=(rg [so 2 .box [xt 0]] (rg [ld 5 1 1,ln 6 5,so 7 (.mks false 1 3 [(.int .i64 0)] 8) [xt 6],so 3 (.alloc [.nils]) [],.st none (.c 1) (xt 3) (xt 7)] (rg [so 4 (.alloc [.nilf]) []] (rg [so 8 (.mkfn (.func 101) 0) [xt 1,xt 2,xt 3,xt 4],.st none (.c 1) (xt 4) (xt 8)] (.reg [ld 9 1 4,.cd (some 10) none (xt 9) [xc (.int .i64 0)]])))))
def rs100:List SR:=[]
theorem fp100:PF 100 11 sc100 rs100:=⟨⟨_,_,{ bt:=F0,fz:=fun i=>if i=7 then false else true,nd:=N0,lv:=N0 },Tryz.func100,rfl,rfl,by kernel_rfl,by kernel_rfl⟩,by kernel_rfl⟩

/- ostler/arith.rows[int]$1$1 -/
def sc101:SC:=(rg [so 6 .mv [xc (.bool false)]] (.seq (rg [mv 9 0,ld 10 1 1,ln 11 10,bi 12 .eql 9 11] (.cond (xt 12) (rg [ld 13 1 2,ld 14 1 3,.cd (some 15) none (xt 13) [xt 14],mv 6 15] .ret) .skip)) (.seq (rg [ld 16 1 1,mv 17 0,ia 18 1 16 17,ld 19 1 18,ln 20 19,so 21 .mv [xc (.int .i64 0)]] (.block 0 (.loop [0,3,4,19,20,21] (rg [bi 22 .lss 21 20] (.seq (.cond (xt 22) .skip (.exit 0)) (.seq (.block 1 (rg [ia 23 1 19 21,ld 24 1 23,mv 8 24] (rg [ld 25 1 3,mv 26 0,mv 27 8,ia 28 1 25 26,.st none (.c 1) (xt 28) (xt 27)] (rg [ld 29 1 4,mv 30 0,bc 31 .add 30 1,.cd (some 32) none (xt 29) [xt 31],so 33 (.un .not) [xt 32]] (.cond (xt 33) (rg [so 6 .mv [xc (.bool false)]] .ret) .skip))))) (.reg [bc 34 .add 21 1,mv 21 34]))))))) (rg [so 6 .mv [xc (.bool true)]] .ret))))
def rs101:List SR:=[.t 6]
theorem fp101:PF 101 35 sc101 rs101:=⟨⟨_,_,{ bt:=F0,fz:=T1,nd:=N0,lv:=fun i=>if i=5 then [0,3,4,19,20,21] else [] },Tryz.func101,rfl,rfl,by kernel_rfl,by kernel_rfl⟩,by kernel_rfl⟩

/- slices.SortFunc[[]ostler/api.Term,ostler/api.Term] -/
def sc102:SC:=(rg [mv 5 0,ln 6 5,mv 4 6] (.reg [mv 7 0,mv 8 4,mv 9 4,so 10 (.conv .u64) [xt 9],so 11 (.call 112) [xt 10],mv 12 1,.cd (some 13) none (xc (.func (.func 111) [] [])) [xt 7,xc (.int .i64 0),xt 8,xt 11,xt 12]]))
def rs102:List SR:=[]
theorem fp102:PF 102 14 sc102 rs102:=⟨⟨_,_,{ bt:=fun i=>if i=111 then true else false,fz:=T1,nd:=N0,lv:=N0 },Tryz.func102,rfl,rfl,by kernel_rfl,by kernel_rfl⟩,by kernel_rfl⟩

/- slices.CompactFunc[[]ostler/api.Term,ostler/api.Term] -/
def sc103:SC:=(rg [so 4 (.nilv true 4 33) [xc .nils]] (.seq (rg [mv 8 0,ln 9 8,bc 10 .lss 9 2] (.cond (xt 10) (rg [mv 11 0,mv 4 11] .ret) .skip)) (.seq (rg [so 5 .mv [xc (.int .i64 1)]] (.block 0 (.loop [0,1,5] (.seq (rg [mv 12 5,mv 13 0,ln 14 13,bi 15 .lss 12 14] (.cond (xt 15) .skip (.exit 0))) (.seq (.block 1 (.seq (.drw [0,0,0,6,14,0,0,64,224,480,1023] [mv 18 1,mv 19 0,mv 20 5,ia 21 4 19 20,lt 22 4 21,mv 23 0,mv 24 5,bc 25 .sub 24 1,ia 26 4 23 25,lt 27 4 26,.cd (some 28) none (xt 18) [xt 22,xt 27]]) (.cond (xt 28) (rg [mv 29 0,mv 30 5,so 31 (.slice 4 true false) [xt 29,xt 30],mv 6 31] (.seq (rg [so 7 .mv [xc (.int .i64 1)]] (.block 2 (.loop [0,1,5,6,7] (.seq (rg [mv 32 7,mv 33 6,ln 34 33,bi 35 .lss 32 34] (.cond (xt 35) .skip (.exit 2))) (.seq (.block 3 (.seq (.drw [0,0,0,6,14,0,0,64,224,480,1023,2047] [mv 38 1,mv 39 6,mv 40 7,ia 41 4 39 40,lt 42 4 41,mv 43 6,mv 44 7,bc 45 .sub 44 1,ia 46 4 43 45,lt 47 4 46,.cd (some 48) none (xt 38) [xt 42,xt 47],so 49 (.un .not) [xt 48]]) (.cond (xt 49) (rg [mv 50 0,mv 51 5,mv 52 6,mv 53 7,ia 54 4 52 53,lt 55 4 54,ia 56 4 50 51,.st none (.c 4) (xt 56) (xt 55)] (.reg [mv 57 5,bc 58 .add 57 1,mv 5 58])) .skip))) (.reg [mv 36 7,bc 37 .add 36 1,mv 7 37])))))) (rg [mv 59 0,mv 60 5,so 61 (.slice 4 true false) [xt 59,xt 60],.a none none .bad []] (rg [mv 62 0,mv 63 5,so 64 (.slice 4 false true) [xt 62,xt 63],mv 4 64] .ret)))) .skip))) (.reg [mv 16 5,bc 17 .add 16 1,mv 5 17])))))) (rg [mv 65 0,mv 4 65] .ret))))
def rs103:List SR:=[.t 4]
theorem fp103:PF 103 66 sc103 rs103:=⟨⟨_,_,{ bt:=F0,fz:=T1,nd:=fun i=>if i=6 then [0,0,0,6,14,0,0,64,224,480,1023] else if i=11 then [0,0,0,6,14,0,0,64,224,480,1023,2047] else [],lv:=fun i=>if i=5 then [0,1,5] else if i=10 then [0,1,5,6,7] else [] },Tryz.func103,rfl,rfl,by kernel_rfl,by kernel_rfl⟩,by kernel_rfl⟩

/- slices.IndexFunc[[][]ostler/api.Term,[]ostler/api.Term] -/
def sc104:SC:=(rg [so 4 .mv [xc (.int .i64 0)]] (.seq (rg [mv 6 0,ln 7 6,so 8 .mv [xc (.int .i64 0)]] (.block 0 (.loop [0,1,7,8] (rg [bi 9 .lss 8 7] (.seq (.cond (xt 9) .skip (.exit 0)) (.seq (.block 1 (rg [mv 10 8,mv 5 10] (rg [mv 11 1,mv 12 0,mv 13 5,ia 14 1 12 13,ld 15 1 14,.cd (some 16) none (xt 11) [xt 15]] (.cond (xt 16) (rg [mv 17 5,mv 4 17] .ret) .skip)))) (.reg [bc 18 .add 8 1,mv 8 18]))))))) (rg [so 4 .mv [xc (.int .i64 (-1))]] .ret)))
def rs104:List SR:=[.t 4]
theorem fp104:PF 104 19 sc104 rs104:=⟨⟨_,_,{ bt:=F0,fz:=T1,nd:=N0,lv:=fun i=>if i=3 then [0,1,7,8] else [] },Tryz.func104,rfl,rfl,by kernel_rfl,by kernel_rfl⟩,by kernel_rfl⟩

/- ostler/arith.rows[ostler/api.Term]$1 -/
def sc105:SC:=(rg [so 2 .box [xt 0]] (rg [ld 5 1 1,ln 6 5,so 7 (.mks false 4 33 [(.int .u8 0),(.int .i64 0),(.str []),(.slice [] [])] 56) [xt 6],so 3 (.alloc [.nils]) [],.st none (.c 1) (xt 3) (xt 7)] (rg [so 4 (.alloc [.nilf]) []] (rg [so 8 (.mkfn (.func 106) 0) [xt 1,xt 2,xt 3,xt 4],.st none (.c 1) (xt 4) (xt 8)] (.reg [ld 9 1 4,.cd (some 10) none (xt 9) [xc (.int .i64 0)]])))))
def rs105:List SR:=[]
theorem fp105:PF 105 11 sc105 rs105:=⟨⟨_,_,{ bt:=F0,fz:=fun i=>if i=7 then false else true,nd:=N0,lv:=N0 },Tryz.func105,rfl,rfl,by kernel_rfl,by kernel_rfl⟩,by kernel_rfl⟩

/- ostler/arith.rows[ostler/api.Term]$1$1 -/
def sc106:SC:=(rg [so 6 .mv [xc (.bool false)]] (.seq (rg [mv 9 0,ld 10 1 1,ln 11 10,bi 12 .eql 9 11] (.cond (xt 12) (rg [ld 13 1 2,ld 14 1 3,.cd (some 15) none (xt 13) [xt 14],mv 6 15] .ret) .skip)) (.seq (rg [ld 16 1 1,mv 17 0,ia 18 1 16 17,ld 19 1 18,ln 20 19,so 21 .mv [xc (.int .i64 0)]] (.block 0 (.loop [0,3,4,19,20,21] (rg [bi 22 .lss 21 20] (.seq (.cond (xt 22) .skip (.exit 0)) (.seq (.block 1 (rg [ia 23 4 19 21,lt 24 4 23,so 8 (.alloc [(.int .u8 0),(.int .i64 0),(.str []),.nils]) [],.st none (.c 4) (xt 8) (xt 24)] (rg [ld 25 1 3,mv 26 0,lt 27 4 8,ia 28 4 25 26,.st none (.c 4) (xt 28) (xt 27)] (rg [ld 29 1 4,mv 30 0,bc 31 .add 30 1,.cd (some 32) none (xt 29) [xt 31],so 33 (.un .not) [xt 32]] (.cond (xt 33) (rg [so 6 .mv [xc (.bool false)]] .ret) .skip))))) (.reg [bc 34 .add 21 1,mv 21 34]))))))) (rg [so 6 .mv [xc (.bool true)]] .ret))))
def rs106:List SR:=[.t 6]
theorem fp106:PF 106 35 sc106 rs106:=⟨⟨_,_,{ bt:=F0,fz:=T1,nd:=N0,lv:=fun i=>if i=5 then [0,3,4,19,20,21] else [] },Tryz.func106,rfl,rfl,by kernel_rfl,by kernel_rfl⟩,by kernel_rfl⟩

/- strings.TrimLeft -/
def sc108:SC:=(rg [so 4 .mv [xc (.str [])]] (.seq (rg [mv 7 0,so 8 (.bin .eql) [xt 7,xc (.str [])],mv 9 8,.a (some 10) (some (9,false)) .mv [xt 1],.a (some 11) (some (9,false)) (.bin .eql) [xt 10,xc (.str [])],so 12 .pick [xt 9,xc (.bool true),xt 11]] (.cond (xt 12) (rg [mv 13 0,mv 4 13] .ret) .skip)) (.seq (rg [mv 14 1,so 15 (.len true) [xt 14],bc 16 .eql 15 1,mv 17 16,.a (some 18) (some (17,true)) .mv [xt 1],.a (some 19) (some (17,true)) .index [xt 18,xc (.int .i64 0)],.a (some 20) (some (17,true)) (.bin .lss) [xt 19,xc (.int .u8 128)],so 21 .pick [xt 17,xt 20,xc (.bool false)]] (.cond (xt 21) (rg [mv 22 0,mv 23 1,so 24 .index [xt 23,xc (.int .i64 0)],so 25 (.call 117) [xt 22,xt 24],mv 4 25] .ret) .skip)) (.seq (rg [mv 27 1,so 28 (.call 118) [xt 27],mv 26 28,so 29 (.extract 0) [xt 26],so 30 (.extract 1) [xt 26],so 5 (.alloc [(.bool false),(.bool false),(.bool false),(.bool false),(.bool false),(.bool false),(.bool false),(.bool false),(.bool false),(.bool false),(.bool false),(.bool false),(.bool false),(.bool false),(.bool false),(.bool false),(.bool false),(.bool false),(.bool false),(.bool false),(.bool false),(.bool false),(.bool false),(.bool false),(.bool false),(.bool false),(.bool false),(.bool false),(.bool false),(.bool false),(.bool false),(.bool false),(.bool false),(.bool false),(.bool false),(.bool false),(.bool false),(.bool false),(.bool false),(.bool false),(.bool false),(.bool false),(.bool false),(.bool false),(.bool false),(.bool false),(.bool false),(.bool false),(.bool false),(.bool false),(.bool false),(.bool false),(.bool false),(.bool false),(.bool false),(.bool false),(.bool false),(.bool false),(.bool false),(.bool false),(.bool false),(.bool false),(.bool false),(.bool false),(.bool false),(.bool false),(.bool false),(.bool false),(.bool false),(.bool false),(.bool false),(.bool false),(.bool false),(.bool false),(.bool false),(.bool false),(.bool false),(.bool false),(.bool false),(.bool false),(.bool false),(.bool false),(.bool false),(.bool false),(.bool false),(.bool false),(.bool false),(.bool false),(.bool false),(.bool false),(.bool false),(.bool false),(.bool false),(.bool false),(.bool false),(.bool false),(.bool false),(.bool false),(.bool false),(.bool false),(.bool false),(.bool false),(.bool false),(.bool false),(.bool false),(.bool false),(.bool false),(.bool false),(.bool false),(.bool false),(.bool false),(.bool false),(.bool false),(.bool false),(.bool false),(.bool false),(.bool false),(.bool false),(.bool false),(.bool false),(.bool false),(.bool false),(.bool false),(.bool false),(.bool false),(.bool false),(.bool false),(.bool false),(.bool false),(.bool false),(.bool false),(.bool false),(.bool false),(.bool false),(.bool false),(.bool false),(.bool false),(.bool false),(.bool false),(.bool false),(.bool false),(.bool false),(.bool false),(.bool false),(.bool false),(.bool false),(.bool false),(.bool false),(.bool false),(.bool false),(.bool false),(.bool false),(.bool false),(.bool false),(.bool false),(.bool false),(.bool false),(.bool false),(.bool false),(.bool false),(.bool false),(.bool false),(.bool false),(.bool false),(.bool false),(.bool false),(.bool false),(.bool false),(.bool false),(.bool false),(.bool false),(.bool false),(.bool false),(.bool false),(.bool false),(.bool false),(.bool false),(.bool false),(.bool false),(.bool false),(.bool false),(.bool false),(.bool false),(.bool false),(.bool false),(.bool false),(.bool false),(.bool false),(.bool false),(.bool false),(.bool false),(.bool false),(.bool false),(.bool false),(.bool false),(.bool false),(.bool false),(.bool false),(.bool false),(.bool false),(.bool false),(.bool false),(.bool false),(.bool false),(.bool false),(.bool false),(.bool false),(.bool false),(.bool false),(.bool false),(.bool false),(.bool false),(.bool false),(.bool false),(.bool false),(.bool false),(.bool false),(.bool false),(.bool false),(.bool false),(.bool false),(.bool false),(.bool false),(.bool false),(.bool false),(.bool false),(.bool false),(.bool false),(.bool false),(.bool false),(.bool false),(.bool false),(.bool false),(.bool false),(.bool false),(.bool false),(.bool false),(.bool false),(.bool false),(.bool false),(.bool false),(.bool false),(.bool false),(.bool false),(.bool false),(.bool false),(.bool false),(.bool false),(.bool false),(.bool false),(.bool false),(.bool false),(.bool false),(.bool false),(.bool false),(.bool false)]) [],.st none (.c 256) (xt 5) (xt 29),mv 6 30] (rg [mv 31 6] (.cond (xt 31) (rg [mv 32 0,.cd (some 33) none (xc (.func (.func 119) [] [])) [xt 32,xt 5],mv 4 33] .ret) .skip))) (rg [mv 34 0,mv 35 1,so 36 (.call 120) [xt 34,xt 35],mv 4 36] .ret)))))
def rs108:List SR:=[.t 4]
theorem fp108:PF 108 37 sc108 rs108:=⟨⟨_,_,{ bt:=fun i=>if i=119 then true else false,fz:=T1,nd:=N0,lv:=N0 },Tryz.func108,rfl,rfl,by kernel_rfl,by kernel_rfl⟩,by kernel_rfl⟩

/- ostler/term.inside -/
def sc109:SC:=(rg [so 2 .mv [xc (.bool false)]] (rg [mv 3 0,so 4 (.call 93) [xt 3],mv 5 4,.a (some 6) (some (5,false)) .mv [xt 0],.a (some 7) (some (5,false)) (.call 95) [xt 6],so 8 .pick [xt 5,xc (.bool true),xt 7],mv 9 8,.a (some 10) (some (9,false)) .mv [xt 0],.a (some 11) (some (9,false)) (.call 97) [xt 10],so 12 .pick [xt 9,xc (.bool true),xt 11],mv 13 12,.a (some 14) (some (13,false)) .mv [xt 0],.a (some 15) (some (13,false)) (.bin .eql) [xt 14,xc (.int .u8 95)],so 16 .pick [xt 13,xc (.bool true),xt 15],mv 2 16] .ret))
def rs109:List SR:=[.t 2]
theorem fp109:PF 109 17 sc109 rs109:=⟨⟨_,_,{ bt:=F0,fz:=T1,nd:=N0,lv:=N0 },Tryz.func109,rfl,rfl,by kernel_rfl,by kernel_rfl⟩,by kernel_rfl⟩

/- internal/stringslite.CutPrefix -/
def sc110:SC:=(rg [so 4 .mv [xc (.str [])],so 5 .mv [xc (.bool false)]] (.seq (rg [mv 6 0,mv 7 1,so 8 (.call 121) [xt 6,xt 7],so 9 (.un .not) [xt 8]] (.cond (xt 9) (rg [mv 10 0,mv 4 10,so 5 .mv [xc (.bool false)]] .ret) .skip)) (rg [mv 11 0,mv 12 1,so 13 (.len true) [xt 12],so 14 (.sliceS true false) [xt 11,xt 13],mv 4 14,so 5 .mv [xc (.bool true)]] .ret)))
def rs110:List SR:=[.t 4,.t 5]
theorem fp110:PF 110 15 sc110 rs110:=⟨⟨_,_,{ bt:=F0,fz:=T1,nd:=N0,lv:=N0 },Tryz.func110,rfl,rfl,by kernel_rfl,by kernel_rfl⟩,by kernel_rfl⟩

/- slices.pdqsortCmpFunc[ostler/api.Term] -/
def sc111:SC:=(rg [so 10 .mv [xc (.bool true)]] (rg [so 11 .mv [xc (.bool true)]] (.block 0 (.loop [0,1,2,3,4,10,11] (.block 1 (rg [mv 21 2,mv 22 1,bi 23 .sub 21 22,mv 12 23] (.seq (rg [mv 24 12,bc 25 .leq 24 12] (.cond (xt 25) (rg [mv 26 0,mv 27 1,mv 28 2,mv 29 4,.cd (some 30) none (xc (.func (.func 122) [] [])) [xt 26,xt 27,xt 28,xt 29]] .ret) .skip)) (.seq (rg [mv 31 3,bc 32 .eql 31 0] (.cond (xt 32) (rg [mv 33 0,mv 34 1,mv 35 2,mv 36 4,.cd (some 37) none (xc (.func (.func 123) [] [])) [xt 33,xt 34,xt 35,xt 36]] .ret) .skip)) (.seq (rg [mv 38 10,so 39 (.un .not) [xt 38]] (.cond (xt 39) (rg [mv 40 0,mv 41 1,mv 42 2,mv 43 4,.cd (some 44) none (xc (.func (.func 124) [] [])) [xt 40,xt 41,xt 42,xt 43]] (.reg [mv 45 3,bc 46 .sub 45 1,mv 3 46])) .skip)) (rg [mv 48 0,mv 49 1,mv 50 2,mv 51 4,.cd (some 52) none (xc (.func (.func 125) [] [])) [xt 48,xt 49,xt 50,xt 51],mv 47 52,so 53 (.extract 0) [xt 47],so 54 (.extract 1) [xt 47],mv 13 53,mv 14 54] (.seq (rg [mv 55 14,bc 56 .eql 55 2] (.cond (xt 56) (rg [mv 57 0,mv 58 1,mv 59 2,mv 60 4,.cd (some 61) none (xc (.func (.func 126) [] [])) [xt 57,xt 58,xt 59,xt 60]] (rg [mv 62 2,bc 63 .sub 62 1,mv 64 13,mv 65 1,bi 66 .sub 64 65,bi 67 .sub 63 66,mv 13 67] (.reg [so 14 .mv [xc (.int .i64 1)]]))) .skip)) (.seq (rg [mv 68 10,mv 69 68,.a (some 70) (some (69,true)) .mv [xt 11],so 71 .pick [xt 69,xt 70,xc (.bool false)],mv 72 71,.a (some 73) (some (72,true)) .mv [xt 14],.a (some 74) (some (72,true)) (.bin .eql) [xt 73,xc (.int .i64 1)],so 75 .pick [xt 72,xt 74,xc (.bool false)]] (.cond (xt 75) (rg [mv 76 0,mv 77 1,mv 78 2,mv 79 4,.cd (some 80) none (xc (.func (.func 127) [] [])) [xt 76,xt 77,xt 78,xt 79]] (.cond (xt 80) .ret .skip)) .skip)) (.seq (.seq (.drw [0,1,3,7,7,7,39,119,247,7,7,1543,3591,8191,16383,32767,65535] [mv 81 1,bc 82 .gtr 81 0,mv 83 82,.a (some 84) (some (83,true)) .mv [xt 4],.a (some 85) (some (83,true)) .mv [xt 0],.a (some 86) (some (83,true)) .mv [xt 1],.a (some 87) (some (83,true)) (.bin .sub) [xt 86,xc (.int .i64 1)],.a (some 88) (some (83,true)) (.iaddr 4) [xt 85,xt 87],.a (some 89) (some (83,true)) (.load true 4) [xt 88],.a (some 90) (some (83,true)) .mv [xt 0],.a (some 91) (some (83,true)) .mv [xt 13],.a (some 92) (some (83,true)) (.iaddr 4) [xt 90,xt 91],.a (some 93) (some (83,true)) (.load true 4) [xt 92],.cd (some 94) (some (83,true)) (xt 84) [xt 89,xt 93],.a (some 95) (some (83,true)) (.bin .lss) [xt 94,xc (.int .i64 0)],.a (some 96) (some (83,true)) (.un .not) [xt 95],so 97 .pick [xt 83,xt 96,xc (.bool false)]]) (.cond (xt 97) (rg [mv 98 0,mv 99 1,mv 100 2,mv 101 13,mv 102 4,.cd (some 103) none (xc (.func (.func 128) [] [])) [xt 98,xt 99,xt 100,xt 101,xt 102],mv 15 103] (rg [mv 104 15,mv 1 104] (.exit 1))) .skip)) (rg [mv 106 0,mv 107 1,mv 108 2,mv 109 13,mv 110 4,.cd (some 111) none (xc (.func (.func 129) [] [])) [xt 106,xt 107,xt 108,xt 109,xt 110],mv 105 111,so 112 (.extract 0) [xt 105],so 113 (.extract 1) [xt 105],mv 16 112,mv 17 113] (rg [mv 114 17,mv 11 114] (rg [mv 115 16,mv 116 1,bi 117 .sub 115 116,mv 118 2,mv 119 16,bi 120 .sub 118 119,mv 18 117,mv 19 120] (rg [mv 121 12,bc 122 .quo 121 8,mv 20 122] (rg [mv 123 18,mv 124 19,bi 125 .lss 123 124] (.cond (xt 125) (rg [mv 126 18,mv 127 20,bi 128 .geq 126 127,mv 10 128] (rg [mv 129 0,mv 130 1,mv 131 16,mv 132 3,mv 133 4,.cd (some 134) none (xc (.func (.func 111) [] [])) [xt 129,xt 130,xt 131,xt 132,xt 133]] (.reg [mv 135 16,bc 136 .add 135 1,mv 1 136]))) (rg [mv 137 19,mv 138 20,bi 139 .geq 137 138,mv 10 139] (rg [mv 140 0,mv 141 16,bc 142 .add 141 1,mv 143 2,mv 144 3,mv 145 4,.cd (some 146) none (xc (.func (.func 111) [] [])) [xt 140,xt 142,xt 143,xt 144,xt 145]] (.reg [mv 147 16,mv 2 147]))))))))))))))))))))))
def rs111:List SR:=[]
theorem fp111:PF 111 148 sc111 rs111:=⟨⟨_,_,{ bt:=fun i=>if i=111 then true else if i=122 then true else if i=123 then true else if i=124 then true else if i=125 then true else if i=126 then true else if i=127 then true else if i=128 then true else if i=129 then true else false,fz:=T1,nd:=fun i=>if i=17 then [0,1,3,7,7,7,39,119,247,7,7,1543,3591,8191,16383,32767,65535] else [],lv:=fun i=>if i=3 then [0,1,2,3,4,10,11] else [] },Tryz.func111,rfl,rfl,by kernel_rfl,by kernel_rfl⟩,by kernel_rfl⟩

/- math/bits.Len -/
def sc112:SC:=(rg [so 2 .mv [xc (.int .i64 0)]] (.seq (.cond (xc (.bool false)) (rg [mv 3 0,so 4 (.conv .u32) [xt 3],so 5 (.call 130) [xt 4],mv 2 5] .ret) .skip) (rg [mv 6 0,so 7 (.call 131) [xt 6],mv 2 7] .ret)))
def rs112:List SR:=[.t 2]
theorem fp112:PF 112 8 sc112 rs112:=⟨⟨_,_,{ bt:=F0,fz:=T1,nd:=N0,lv:=N0 },Tryz.func112,rfl,rfl,by kernel_rfl,by kernel_rfl⟩,by kernel_rfl⟩

/- strings.trimLeftByte -/
def sc117:SC:=(rg [so 4 .mv [xc (.str [])]] (.seq (.block 0 (.loop [0,1] (.seq (rg [mv 5 0,so 6 (.len true) [xt 5],bc 7 .gtr 6 0,mv 8 7,.a (some 9) (some (8,true)) .mv [xt 0],.a (some 10) (some (8,true)) .index [xt 9,xc (.int .i64 0)],.a (some 11) (some (8,true)) .mv [xt 1],.a (some 12) (some (8,true)) (.bin .eql) [xt 10,xt 11],so 13 .pick [xt 8,xt 12,xc (.bool false)]] (.cond (xt 13) .skip (.exit 0))) (.block 1 (.reg [mv 14 0,so 15 (.sliceS true false) [xt 14,xc (.int .i64 1)],mv 0 15]))))) (rg [mv 16 0,mv 4 16] .ret)))
def rs117:List SR:=[.t 4]
theorem fp117:PF 117 17 sc117 rs117:=⟨⟨_,_,{ bt:=F0,fz:=T1,nd:=N0,lv:=fun i=>if i=2 then [0,1] else [] },Tryz.func117,rfl,rfl,by kernel_rfl,by kernel_rfl⟩,by kernel_rfl⟩

/- internal/stringslite.HasPrefix -/
def sc121:SC:=(rg [so 4 .mv [xc (.bool false)]] (rg [mv 5 0,so 6 (.len true) [xt 5],mv 7 1,so 8 (.len true) [xt 7],bi 9 .geq 6 8,mv 10 9,.a (some 11) (some (10,true)) .mv [xt 0],.a (some 12) (some (10,true)) .mv [xt 1],.a (some 13) (some (10,true)) (.len true) [xt 12],.a (some 14) (some (10,true)) (.sliceS false true) [xt 11,xt 13],.a (some 15) (some (10,true)) .mv [xt 1],.a (some 16) (some (10,true)) (.bin .eql) [xt 14,xt 15],so 17 .pick [xt 10,xt 16,xc (.bool false)],mv 4 17] .ret))
def rs121:List SR:=[.t 4]
theorem fp121:PF 121 18 sc121 rs121:=⟨⟨_,_,{ bt:=F0,fz:=T1,nd:=N0,lv:=N0 },Tryz.func121,rfl,rfl,by kernel_rfl,by kernel_rfl⟩,by kernel_rfl⟩

/- slices.insertionSortCmpFunc[ostler/api.Term] -/
def sc122:SC:=(rg [mv 10 1,bc 11 .add 10 1,mv 8 11] (.block 0 (.loop [0,1,2,3,8] (.seq (rg [mv 12 8,mv 13 2,bi 14 .lss 12 13] (.cond (xt 14) .skip (.exit 0))) (.seq (.block 1 (rg [mv 17 8,mv 9 17] (.block 2 (.loop [0,1,2,3,8,9] (.seq (.seq (.drw [0,0,3,7,15,15,15,111,239,15,15,1039,3599,7695,16383,32767,65535] [mv 18 9,mv 19 1,bi 20 .gtr 18 19,mv 21 20,.a (some 22) (some (21,true)) .mv [xt 3],.a (some 23) (some (21,true)) .mv [xt 0],.a (some 24) (some (21,true)) .mv [xt 9],.a (some 25) (some (21,true)) (.iaddr 4) [xt 23,xt 24],.a (some 26) (some (21,true)) (.load true 4) [xt 25],.a (some 27) (some (21,true)) .mv [xt 0],.a (some 28) (some (21,true)) .mv [xt 9],.a (some 29) (some (21,true)) (.bin .sub) [xt 28,xc (.int .i64 1)],.a (some 30) (some (21,true)) (.iaddr 4) [xt 27,xt 29],.a (some 31) (some (21,true)) (.load true 4) [xt 30],.cd (some 32) (some (21,true)) (xt 22) [xt 26,xt 31],.a (some 33) (some (21,true)) (.bin .lss) [xt 32,xc (.int .i64 0)],so 34 .pick [xt 21,xt 33,xc (.bool false)]]) (.cond (xt 34) .skip (.exit 2))) (.seq (.block 3 (.drw [0,0,0,0,8,0,0,64,224,480,0,0,3072,7168,16355,32739,65535,131071] [mv 37 0,mv 38 9,mv 39 0,mv 40 9,bc 41 .sub 40 1,mv 42 0,mv 43 9,bc 44 .sub 43 1,ia 45 4 42 44,lt 46 4 45,mv 47 0,mv 48 9,ia 49 4 47 48,lt 50 4 49,ia 51 4 37 38,.st none (.c 4) (xt 51) (xt 46),ia 52 4 39 41,.st none (.c 4) (xt 52) (xt 50)])) (.reg [mv 35 9,bc 36 .sub 35 1,mv 9 36]))))))) (.reg [mv 15 8,bc 16 .add 15 1,mv 8 16]))))))
def rs122:List SR:=[]
theorem fp122:PF 122 53 sc122 rs122:=⟨⟨_,_,{ bt:=F0,fz:=T1,nd:=fun i=>if i=4 then [0,0,3,7,15,15,15,111,239,15,15,1039,3599,7695,16383,32767,65535] else if i=6 then [0,0,0,0,8,0,0,64,224,480,0,0,3072,7168,16355,32739,65535,131071] else [],lv:=fun i=>if i=2 then [0,1,2,3,8] else if i=5 then [0,1,2,3,8,9] else [] },Tryz.func122,rfl,rfl,by kernel_rfl,by kernel_rfl⟩,by kernel_rfl⟩

/- math/bits.Len32 -/
def sc130:SC:=(rg [so 2 .mv [xc (.int .i64 0)]] (.seq (rg [mv 3 0,so 4 (.bin .geq) [xt 3,xc (.int .u32 65536)]] (.cond (xt 4) (rg [mv 5 0,so 6 (.sh false) [xt 5,xc (.int .u64 16)],mv 0 6] (.reg [so 2 .mv [xc (.int .i64 16)]])) .skip)) (.seq (rg [mv 7 0,so 8 (.bin .geq) [xt 7,xc (.int .u32 256)]] (.cond (xt 8) (rg [mv 9 0,so 10 (.sh false) [xt 9,xc (.int .u64 8)],mv 0 10] (.reg [mv 11 2,bc 12 .add 11 8,mv 2 12])) .skip)) (rg [mv 13 2,mv 14 0,so 15 (.conv .u8) [xt 14],so 16 .index [xc (.str [0,1,2,2,3,3,3,3,4,4,4,4,4,4,4,4,5,5,5,5,5,5,5,5,5,5,5,5,5,5,5,5,6,6,6,6,6,6,6,6,6,6,6,6,6,6,6,6,6,6,6,6,6,6,6,6,6,6,6,6,6,6,6,6,7,7,7,7,7,7,7,7,7,7,7,7,7,7,7,7,7,7,7,7,7,7,7,7,7,7,7,7,7,7,7,7,7,7,7,7,7,7,7,7,7,7,7,7,7,7,7,7,7,7,7,7,7,7,7,7,7,7,7,7,7,7,7,7,8,8,8,8,8,8,8,8,8,8,8,8,8,8,8,8,8,8,8,8,8,8,8,8,8,8,8,8,8,8,8,8,8,8,8,8,8,8,8,8,8,8,8,8,8,8,8,8,8,8,8,8,8,8,8,8,8,8,8,8,8,8,8,8,8,8,8,8,8,8,8,8,8,8,8,8,8,8,8,8,8,8,8,8,8,8,8,8,8,8,8,8,8,8,8,8,8,8,8,8,8,8,8,8,8,8,8,8,8,8,8,8,8,8,8,8,8,8,8,8,8,8,8,8,8,8,8,8]),xt 15],so 17 (.conv .i64) [xt 16],bi 18 .add 13 17,mv 2 18] .ret))))
def rs130:List SR:=[.t 2]
theorem fp130:PF 130 19 sc130 rs130:=⟨⟨_,_,{ bt:=F0,fz:=T1,nd:=N0,lv:=N0 },Tryz.func130,rfl,rfl,by kernel_rfl,by kernel_rfl⟩,by kernel_rfl⟩

/- math/bits.Len64 -/
def sc131:SC:=(rg [so 2 .mv [xc (.int .i64 0)]] (.seq (rg [mv 3 0,so 4 (.bin .geq) [xt 3,xc (.int .u64 4294967296)]] (.cond (xt 4) (rg [mv 5 0,so 6 (.sh false) [xt 5,xc (.int .u64 32)],mv 0 6] (.reg [so 2 .mv [xc (.int .i64 32)]])) .skip)) (.seq (rg [mv 7 0,so 8 (.bin .geq) [xt 7,xc (.int .u64 65536)]] (.cond (xt 8) (rg [mv 9 0,so 10 (.sh false) [xt 9,xc (.int .u64 16)],mv 0 10] (.reg [mv 11 2,bc 12 .add 11 16,mv 2 12])) .skip)) (.seq (rg [mv 13 0,so 14 (.bin .geq) [xt 13,xc (.int .u64 256)]] (.cond (xt 14) (rg [mv 15 0,so 16 (.sh false) [xt 15,xc (.int .u64 8)],mv 0 16] (.reg [mv 17 2,bc 18 .add 17 8,mv 2 18])) .skip)) (rg [mv 19 2,mv 20 0,so 21 (.conv .u8) [xt 20],so 22 .index [xc (.str [0,1,2,2,3,3,3,3,4,4,4,4,4,4,4,4,5,5,5,5,5,5,5,5,5,5,5,5,5,5,5,5,6,6,6,6,6,6,6,6,6,6,6,6,6,6,6,6,6,6,6,6,6,6,6,6,6,6,6,6,6,6,6,6,7,7,7,7,7,7,7,7,7,7,7,7,7,7,7,7,7,7,7,7,7,7,7,7,7,7,7,7,7,7,7,7,7,7,7,7,7,7,7,7,7,7,7,7,7,7,7,7,7,7,7,7,7,7,7,7,7,7,7,7,7,7,7,7,8,8,8,8,8,8,8,8,8,8,8,8,8,8,8,8,8,8,8,8,8,8,8,8,8,8,8,8,8,8,8,8,8,8,8,8,8,8,8,8,8,8,8,8,8,8,8,8,8,8,8,8,8,8,8,8,8,8,8,8,8,8,8,8,8,8,8,8,8,8,8,8,8,8,8,8,8,8,8,8,8,8,8,8,8,8,8,8,8,8,8,8,8,8,8,8,8,8,8,8,8,8,8,8,8,8,8,8,8,8,8,8,8,8,8,8,8,8,8,8,8,8,8,8,8,8,8,8]),xt 21],so 23 (.conv .i64) [xt 22],bi 24 .add 19 23,mv 2 24] .ret)))))
def rs131:List SR:=[.t 2]
theorem fp131:PF 131 25 sc131 rs131:=⟨⟨_,_,{ bt:=F0,fz:=T1,nd:=N0,lv:=N0 },Tryz.func131,rfl,rfl,by kernel_rfl,by kernel_rfl⟩,by kernel_rfl⟩

end Go.Proofs.YtfoklncmfoogcaaGreatDoor
