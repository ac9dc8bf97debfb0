/- The short texts of functions of the program,and that they are theirs (printed by a program of mine). -/
import Derived.Test.YtaclfbhhekhflaaGreatDoorBase
set_option linter.all false
set_option maxRecDepth 100000
noncomputable section
namespace Go.Proofs.YtaclfbhhekhflaaGreatDoor
open Go.Sx
open Go.Sx (SC.seq)
abbrev PF (f n:Nat) (s:SC) (r:List SR):Prop:=FnC Tryz.prog f n s r/\ZC Tryz.prog f=true
abbrev F0:Nat->Bool:=λ_=>false
abbrev T1:Nat->Bool:=λ_=>true
abbrev N0 {α:Type}:Nat->List α:=λ_=>[]
abbrev H0:Hints:={bt:=F0,fz:=T1,nd:=N0,lv:=N0}
theorem mF {f N:Nat} {s:SC} {r:List SR} {fn:Func} {c:Code} (hi:Hints) (h:Tryz.prog.funcs[f]? = some fn) (h1:fn.body=some c) (h2:fn.ntmps=N) (h3:Zt Tryz.prog N hi c=some s:=by kernel_rfl) (h4:fn.results.toList.mapM (Z1c Tryz.prog)=some r:=by kernel_rfl) (h5:ZC Tryz.prog f=true:=by kernel_rfl):PF f N s r:=⟨⟨_,_,hi,h,h1,h2,h3,h4⟩,h5⟩
abbrev mv (d a:Nat):SOp:=so d .mv [xt a]
abbrev fa (d o a:Nat):SOp:=so d (.faddr o) [xt a]
abbrev ld (d z a:Nat):SOp:=so d (.load false z) [xt a]
abbrev lt (d z a:Nat):SOp:=so d (.load true z) [xt a]
abbrev ia (d z a b:Nat):SOp:=so d (.iaddr z) [xt a,xt b]
abbrev bi (d:Nat) (o:Go.BinOp) (a b:Nat):SOp:=so d (.bin o) [xt a,xt b]
abbrev bc (d:Nat) (o:Go.BinOp) (a:Nat) (n:Int):SOp:=so d (.bin o) [xt a,xc (.int .i64 n)]
abbrev ln (d a:Nat):SOp:=so d (.len false) [xt a]
abbrev zu:D:=.int .u8 0
abbrev zi:D:=.int .i64 0
abbrev zs:D:=.str []
abbrev zl:D:=.slice [] []
abbrev ha (d g:Nat) (o:AOp) (x:List X):SOp:=.a (some d) (some (g,true)) o x
abbrev ka (d g:Nat) (o:AOp) (x:List X):SOp:=.a (some d) (some (g,false)) o x
abbrev hm (d g a:Nat):SOp:=ha d g .mv [xt a]
abbrev km (d g a:Nat):SOp:=ka d g .mv [xt a]
abbrev cf (d f:Nat) (x:List X):SOp:=.cd (some d) none (xc (.func (.func f) [] [])) x
abbrev ca (d f:Nat) (x:List X):SOp:=so d (.call f) x
abbrev ex (d i a:Nat):SOp:=so d (.extract i) [xt a]
abbrev mb (d:Nat) (b:Bool):SOp:=so d .mv [xc (.bool b)]
abbrev mi (d:Nat) (n:Int):SOp:=so d .mv [xc (.int .i64 n)]
abbrev un (d a:Nat):SOp:=so d (.un .not) [xt a]
abbrev pT (d a b:Nat):SOp:=so d .pick [xt a,xc (.bool true),xt b]
abbrev pF (d a b:Nat):SOp:=so d .pick [xt a,xt b,xc (.bool false)]
abbrev sN (n a b:Nat):SOp:=.st none (.c n) (xt a) (xt b)
abbrev rg (l:List SOp) (b:SC):SC:=.seq (.reg l) b
def cTx (n:Nat) (hi:Hints) (fn:Func):SC:=((fn.body.bind (Zt Tryz.prog n hi)).getD .skip)
def cRx (fn:Func):List SR:=((fn.results.toList.mapM (Z1c Tryz.prog)).getD [])
theorem Zdm {α:Type} {o:Option α} {d:α} (h:o.isSome=true):o=some (o.getD d):=by
 cases o with
 |none=>cases h
 |some a=>rfl
theorem mG {f N:Nat} {fn:Func} {hi:Hints} (h:Tryz.prog.funcs[f]? = some fn) (h2:fn.ntmps=N) (h3:(fn.body.bind (Zt Tryz.prog N hi)).isSome=true:=by kernel_rfl) (h4:(fn.results.toList.mapM (Z1c Tryz.prog)).isSome=true:=by kernel_rfl) (h5:ZC Tryz.prog f=true:=by kernel_rfl):FnC Tryz.prog f N (cTx N hi fn) (cRx fn)/\ZC Tryz.prog f=true:=by
 refine⟨?_,h5⟩
 unfold cTx cRx
 cases hb:fn.body with
 |none=>rw[hb] at h3;cases h3
 |some c =>
  rw[hb] at h3
  exact⟨fn,c,hi,h,hb,h2,Zdm h3,Zdm h4⟩
/- ostler/ostlerlaw08.SafetyGrounds -/
def sc3:SC:=cTx 200 {bt:=F0,fz:=T1,nd:=λi=>if i=27 then [0,0,0,6,14,0,63,127,255,255,511,2047] else [],lv:=λi=>if i=9 then [1,2,5,6,7] else if i=16 then [1,2,5,8,9,10] else if i=22 then [1,2,5,8,9,10,12,13] else if i=32 then [2,5,8,17] else if i=35 then [2,5,8,17,18] else if i=45 then [5,8,24] else []} Tryz.f3
def rs3:List SR:=cRx Tryz.f3
theorem fp3:PF 3 200 sc3 rs3:=mG Tryz.func3 rfl
/- ostler/ostlerlaw08.awake -/
def sc4:SC:=cTx 44 H0 Tryz.f4
def rs4:List SR:=cRx Tryz.f4
theorem fp4:PF 4 44 sc4 rs4:=mG Tryz.func4 rfl
/- ostler/safety.Global -/
def sc5:SC:=cTx 6 {bt:=λi=>if i=17 then true else if i=18 then true else false,fz:=T1,nd:=N0,lv:=N0} Tryz.f5
def rs5:List SR:=cRx Tryz.f5
theorem fp5:PF 5 6 sc5 rs5:=mG Tryz.func5 rfl
/- ostler/safety.Unsafe -/
def sc6:SC:=cTx 6 {bt:=λi=>if i=18 then true else if i=19 then true else false,fz:=T1,nd:=N0,lv:=N0} Tryz.f6
def rs6:List SR:=cRx Tryz.f6
theorem fp6:PF 6 6 sc6 rs6:=mG Tryz.func6 rfl
/- ostler/ostlerkit.SizeRule -/
def sc7:SC:=cTx 148 {bt:=F0,fz:=T1,nd:=λi=>if i=1 then [0,1,0,7,15,0,32,0,239,511,0,1024,0,7663,16383,0,32768,0,245231,524287,0,1048576,0,7847407,16777215,33554431] else if i=5 then [0,0,2,0,14,30,62,0,0,384,1022,0,2048,0,14336,30720,63488,0,0,393216,1048574,2097150,4194303,8388607] else if i=10 then [0,0,2,6,0,0,48,126,254,0,512,0,0,6144,16126,32766,0,65536,0,0,786432,2064126,4194302,8388607,16777215] else if i=14 then [0,0,2,0,14,30,62,0,0,384,1022,2046,0,4096,0,28672,61440,126976,0,0,786432,2095102,4194302,8388607,16777215] else [],lv:=λi=>if i=4 then [1,2,5,6] else if i=8 then [1,2,5,7] else if i=13 then [1,2,5,7,8,9] else []} Tryz.f7
def rs7:List SR:=cRx Tryz.f7
theorem fp7:PF 7 148 sc7 rs7:=mG Tryz.func7 rfl
/- ostler/ostlerlaw08.has -/
def sc8:SC:=cTx 18 {bt:=F0,fz:=T1,nd:=N0,lv:=λi=>if i=3 then [0,1,5] else []} Tryz.f8
def rs8:List SR:=cRx Tryz.f8
theorem fp8:PF 8 18 sc8 rs8:=mG Tryz.func8 rfl
/- ostler/term.Variable -/
def sc9:SC:=cTx 24 {bt:=λi=>if i=25 then true else if i=27 then true else false,fz:=T1,nd:=N0,lv:=N0} Tryz.f9
def rs9:List SR:=cRx Tryz.f9
theorem fp9:PF 9 24 sc9 rs9:=mG Tryz.func9 rfl
/- ostler/safety.Bound -/
def sc10:SC:=cTx 15 {bt:=λi=>if i=18 then true else if i=29 then true else if i=30 then true else if i=31 then true else false,fz:=T1,nd:=N0,lv:=N0} Tryz.f10
def rs10:List SR:=cRx Tryz.f10
theorem fp10:PF 10 15 sc10 rs10:=mG Tryz.func10 rfl
/- ostler/ostlerkit.Pick -/
def sc11:SC:=cTx 16 H0 Tryz.f11
def rs11:List SR:=cRx Tryz.f11
theorem fp11:PF 11 16 sc11 rs11:=mG Tryz.func11 rfl
/- ostler/match.Bind -/
def sc12:SC:=cTx 34 {bt:=λi=>if i=34 then true else if i=35 then true else false,fz:=T1,nd:=N0,lv:=N0} Tryz.f12
def rs12:List SR:=cRx Tryz.f12
theorem fp12:PF 12 34 sc12 rs12:=mG Tryz.func12 rfl
/- ostler/ostlerlaw08.solve -/
def sc13:SC:=cTx 63 {bt:=F0,fz:=T1,nd:=λi=>if i=8 then [0,0,2,0,8,24,63,127,255,255,511,2047] else [],lv:=N0} Tryz.f13
def rs13:List SR:=cRx Tryz.f13
theorem fp13:PF 13 63 sc13 rs13:=mG Tryz.func13 rfl
/- ostler/match.Get -/
def sc14:SC:=cTx 23 {bt:=λi=>if i=39 then true else false,fz:=T1,nd:=N0,lv:=N0} Tryz.f14
def rs14:List SR:=cRx Tryz.f14
theorem fp14:PF 14 23 sc14 rs14:=mG Tryz.func14 rfl
/- ostler/ostlerlaw08.read -/
def sc15:SC:=cTx 13 H0 Tryz.f15
def rs15:List SR:=cRx Tryz.f15
theorem fp15:PF 15 13 sc15 rs15:=mG Tryz.func15 rfl
/- ostler/ostlerkit.SameTexts -/
def sc16:SC:=cTx 26 {bt:=F0,fz:=T1,nd:=λi=>if i=6 then [0,0,3,7,0,0,48,112,255] else [],lv:=λi=>if i=5 then [0,1,5] else []} Tryz.f16
def rs16:List SR:=cRx Tryz.f16
theorem fp16:PF 16 26 sc16 rs16:=mG Tryz.func16 rfl
/- ostler/safety.global -/
def sc17:SC:=cTx 75 {bt:=λi=>if i=29 then true else if i=42 then true else if i=43 then true else false,fz:=T1,nd:=N0,lv:=λi=>if i=6 then [1,3,27,28,29] else if i=13 then [3,49,50,51] else []} Tryz.f17
def rs17:List SR:=cRx Tryz.f17
theorem fp17:PF 17 75 sc17 rs17:=mG Tryz.func17 rfl
/- (ostler/safety.set).sorted -/
def sc18:SC:=cTx 6 {bt:=λi=>if i=44 then true else if i=45 then true else false,fz:=T1,nd:=N0,lv:=N0} Tryz.f18
def rs18:List SR:=cRx Tryz.f18
theorem fp18:PF 18 6 sc18 rs18:=mG Tryz.func18 rfl
/- ostler/safety.unsafe -/
def sc19:SC:=cTx 88 {bt:=λi=>if i=17 then true else if i=31 then true else if i=42 then true else if i=43 then true else if i=45 then true else if i=46 then true else if i=47 then true else false,fz:=T1,nd:=λi=>if i=10 then [0,0,2,0,8,24,56,127] else if i=15 then [0,0,2,0,8,24,63] else if i=22 then [0,0,2,0,8,24,56,127] else if i=24 then [0,0,2,6,0,0,62,127] else [],lv:=λi=>if i=5 then [1,3,4,16,17,18] else if i=14 then [1,3,4,16,17,18,44,45,46] else if i=20 then [1,3,4,60,61,62] else []} Tryz.f19
def rs19:List SR:=cRx Tryz.f19
theorem fp19:PF 19 88 sc19 rs19:=mG Tryz.func19 rfl
/- ostler/ostlerkit.SizeTerm -/
def sc20:SC:=cTx 11 H0 Tryz.f20
def rs20:List SR:=cRx Tryz.f20
theorem fp20:PF 20 11 sc20 rs20:=mG Tryz.func20 rfl
/- ostler/ostlerkit.SizeTerms -/
def sc21:SC:=cTx 29 {bt:=F0,fz:=T1,nd:=N0,lv:=λi=>if i=4 then [0,1,5,6] else []} Tryz.f21
def rs21:List SR:=cRx Tryz.f21
theorem fp21:PF 21 29 sc21 rs21:=mG Tryz.func21 rfl
/- ostler/ostlerkit.SizeAtom -/
def sc22:SC:=cTx 11 H0 Tryz.f22
def rs22:List SR:=cRx Tryz.f22
theorem fp22:PF 22 11 sc22 rs22:=mG Tryz.func22 rfl
/- ostler/ostlerkit.SizeLits -/
def sc23:SC:=cTx 51 {bt:=F0,fz:=T1,nd:=λi=>if i=5 then [0,0,0,6,14,30,0,0,192,510,1022,0,0,6144,14336,30720,0,0,196608,523262,1048574,0,0,6291456,14680064,31457280,0,0,201326592,535821310,1073741822,2147483647,4294967295] else [],lv:=λi=>if i=4 then [0,1,5,6] else []} Tryz.f23
def rs23:List SR:=cRx Tryz.f23
theorem fp23:PF 23 51 sc23 rs23:=mG Tryz.func23 rfl
/- strings.CutPrefix -/
def sc24:SC:=cTx 11 H0 Tryz.f24
def rs24:List SR:=cRx Tryz.f24
theorem fp24:PF 24 11 sc24 rs24:=mG Tryz.func24 rfl
/- ostler/term.word -/
def sc25:SC:=cTx 25 {bt:=λi=>if i=27 then true else false,fz:=T1,nd:=N0,lv:=N0} Tryz.f25
def rs25:List SR:=cRx Tryz.f25
theorem fp25:PF 25 25 sc25 rs25:=mG Tryz.func25 rfl
/- ostler/term.upper -/
def sc26:SC:=cTx 9 H0 Tryz.f26
def rs26:List SR:=cRx Tryz.f26
theorem fp26:PF 26 9 sc26 rs26:=mG Tryz.func26 rfl
/- ostler/term.all -/
def sc27:SC:=cTx 18 {bt:=F0,fz:=T1,nd:=N0,lv:=λi=>if i=3 then [0,1,7,8] else []} Tryz.f27
def rs27:List SR:=cRx Tryz.f27
theorem fp27:PF 27 18 sc27 rs27:=mG Tryz.func27 rfl
/- ostler/term.digit -/
def sc28:SC:=cTx 9 H0 Tryz.f28
def rs28:List SR:=cRx Tryz.f28
theorem fp28:PF 28 9 sc28 rs28:=mG Tryz.func28 rfl
/- (ostler/safety.set).add -/
def sc29:SC:=cTx 10 H0 Tryz.f29
def rs29:List SR:=cRx Tryz.f29
theorem fp29:PF 29 10 sc29 rs29:=mG Tryz.func29 rfl
/- slices.Values[[]string,string] -/
def sc30:SC:=cTx 4 H0 Tryz.f30
def rs30:List SR:=cRx Tryz.f30
theorem fp30:PF 30 4 sc30 rs30:=mG Tryz.func30 rfl
/- ostler/safety.bound -/
def sc31:SC:=cTx 14 {bt:=λi=>if i=52 then true else if i=53 then true else false,fz:=T1,nd:=N0,lv:=N0} Tryz.f31
def rs31:List SR:=cRx Tryz.f31
theorem fp31:PF 31 14 sc31 rs31:=mG Tryz.func31 rfl
/- ostler/match.Valid -/
def sc32:SC:=cTx 38 {bt:=F0,fz:=T1,nd:=λi=>if i=4 then [0,1,3,7,15,31,63,127,255,511,1023,2047,4095,8191,16383,32767,16383,16383,147455,475135,999423,2047999,4194303,8388607,16777215] else [],lv:=λi=>if i=3 then [0,5,6,7] else []} Tryz.f32
def rs32:List SR:=cRx Tryz.f32
theorem fp32:PF 32 38 sc32 rs32:=mG Tryz.func32 rfl
/- ostler/term.Value -/
def sc33:SC:=cTx 11 {bt:=λi=>if i=55 then true else false,fz:=T1,nd:=N0,lv:=N0} Tryz.f33
def rs33:List SR:=cRx Tryz.f33
theorem fp33:PF 33 11 sc33 rs33:=mG Tryz.func33 rfl
/- (*ostler/match.table).bind -/
def sc34:SC:=cTx 66 {bt:=F0,fz:=λi=>if i=36 then false else true,nd:=λi=>if i=3 then [0,1,3,7,0,31,63,127,0,511,1023] else if i=7 then [0,0,2,7,0,16,48,112,0,496,1023] else [],lv:=N0,fg:=λi=>if i=2 then some [0,1,5] else if i=3 then some [0,1,5,7,8] else if i=5 then some [0,1,5,7] else if i=6 then some [0,1,5,7,9] else if i=7 then some [0,1,5,7,9] else if i=8 then some [0,7,9] else if i=9 then some [0,9] else if i=10 then some [] else none} Tryz.f34
def rs34:List SR:=cRx Tryz.f34
theorem fp34:PF 34 66 sc34 rs34:=mG Tryz.func34 rfl
/- (*ostler/match.table).result -/
def sc35:SC:=cTx 25 {bt:=F0,fz:=T1,nd:=λi=>if i=4 then [0,0,2,0,8,24,62,126,255,511] else [],lv:=λi=>if i=3 then [2,8,9,10] else []} Tryz.f35
def rs35:List SR:=cRx Tryz.f35
theorem fp35:PF 35 25 sc35 rs35:=mG Tryz.func35 rfl
/- ostler/match.Apply -/
def sc36:SC:=cTx 9 {bt:=λi=>if i=59 then true else if i=60 then true else false,fz:=T1,nd:=λi=>if i=1 then [0,1,0,7,15] else [],lv:=N0} Tryz.f36
def rs36:List SR:=cRx Tryz.f36
theorem fp36:PF 36 9 sc36 rs36:=mG Tryz.func36 rfl
/- ostler/term.Ground -/
def sc37:SC:=cTx 5 {bt:=λi=>if i=55 then true else false,fz:=T1,nd:=N0,lv:=N0} Tryz.f37
def rs37:List SR:=cRx Tryz.f37
theorem fp37:PF 37 5 sc37 rs37:=mG Tryz.func37 rfl
/- ostler/arith.Expand -/
def sc38:SC:=cTx 31 {bt:=F0,fz:=λi=>if i=27 then false else true,nd:=λi=>if i=7 then [0,0,2,1,0,31,63,127,63] else [],lv:=λi=>if i=6 then [2,3,16,17,18] else [],fg:=λi=>if i=2 then some [1,2,3] else if i=4 then some [1,2,3] else if i=5 then some [1,2,3] else if i=10 then some [2,3] else none} Tryz.f38
def rs38:List SR:=cRx Tryz.f38
theorem fp38:PF 38 31 sc38 rs38:=mG Tryz.func38 rfl
/- (*ostler/match.table).get -/
def sc39:SC:=cTx 28 H0 Tryz.f39
def rs39:List SR:=cRx Tryz.f39
theorem fp39:PF 39 28 sc39 rs39:=mG Tryz.func39 rfl
/- ostler/match.copied -/
def sc40:SC:=cTx 5 {bt:=λi=>if i=60 then true else false,fz:=T1,nd:=N0,lv:=N0} Tryz.f40
def rs40:List SR:=cRx Tryz.f40
theorem fp40:PF 40 5 sc40 rs40:=mG Tryz.func40 rfl
/- ostler/ostlerref04.Rule -/
def sc41:SC:=cTx 42 {bt:=λi=>if i=66 then true else if i=67 then true else if i=68 then true else false,fz:=T1,nd:=λi=>if i=3 then [0,1,3,7,0,16,48,112,240,511] else if i=6 then [0,0,2,6,14,0,32,96,224,1,543,2047] else [],lv:=N0} Tryz.f41
def rs41:List SR:=cRx Tryz.f41
theorem fp41:PF 41 42 sc41 rs41:=mG Tryz.func41 rfl
/- ostler/safety.vars -/
def sc42:SC:=cTx 4 H0 Tryz.f42
def rs42:List SR:=cRx Tryz.f42
theorem fp42:PF 42 4 sc42 rs42:=mG Tryz.func42 rfl
/- ostler/safety.within -/
def sc43:SC:=cTx 27 {bt:=λi=>if i=42 then true else false,fz:=T1,nd:=N0,lv:=λi=>if i=4 then [3,6,7,8] else []} Tryz.f43
def rs43:List SR:=cRx Tryz.f43
theorem fp43:PF 43 27 sc43 rs43:=mG Tryz.func43 rfl
/- slices.Sorted[string] -/
def sc44:SC:=cTx 9 {bt:=λi=>if i=71 then true else if i=72 then true else false,fz:=T1,nd:=N0,lv:=N0,fg:=λi=>if i=2 then some [0] else if i=3 then some [3] else if i=4 then some [3] else none} Tryz.f44
def rs44:List SR:=cRx Tryz.f44
theorem fp44:PF 44 9 sc44 rs44:=mG Tryz.func44 rfl
/- maps.Keys[ostler/safety.set,string,struct{}] -/
def sc45:SC:=cTx 4 H0 Tryz.f45
def rs45:List SR:=cRx Tryz.f45
theorem fp45:PF 45 4 sc45 rs45:=mG Tryz.func45 rfl
/- (ostler/safety.judge).element -/
def sc46:SC:=cTx 20 {bt:=λi=>if i=31 then true else if i=43 then true else if i=47 then true else false,fz:=T1,nd:=λi=>if i=3 then [0,0,2,0,15] else [],lv:=N0} Tryz.f46
def rs46:List SR:=cRx Tryz.f46
theorem fp46:PF 46 20 sc46 rs46:=mG Tryz.func46 rfl
/- (ostler/safety.judge).check -/
def sc47:SC:=cTx 19 {bt:=λi=>if i=29 then true else if i=30 then true else if i=74 then true else false,fz:=T1,nd:=λi=>if i=4 then [0,1,0,4,12,31] else [],lv:=N0} Tryz.f47
def rs47:List SR:=cRx Tryz.f47
theorem fp47:PF 47 19 sc47 rs47:=mG Tryz.func47 rfl
/- internal/stringslite.CutPrefix -/
def sc48:SC:=cTx 15 H0 Tryz.f48
def rs48:List SR:=cRx Tryz.f48
theorem fp48:PF 48 15 sc48 rs48:=mG Tryz.func48 rfl
/- strings.TrimLeft -/
def sc49:SC:=cTx 37 {bt:=λi=>if i=78 then true else false,fz:=T1,nd:=N0,lv:=N0} Tryz.f49
def rs49:List SR:=cRx Tryz.f49
theorem fp49:PF 49 37 sc49 rs49:=mG Tryz.func49 rfl
/- ostler/term.inside -/
def sc50:SC:=cTx 17 H0 Tryz.f50
def rs50:List SR:=cRx Tryz.f50
theorem fp50:PF 50 17 sc50 rs50:=mG Tryz.func50 rfl
/- slices.Values[[]string,string]$1 -/
def sc51:SC:=cTx 16 {bt:=F0,fz:=T1,nd:=N0,lv:=λi=>if i=2 then [0,5,6,7] else []} Tryz.f51
def rs51:List SR:=cRx Tryz.f51
theorem fp51:PF 51 16 sc51 rs51:=mG Tryz.func51 rfl
/- (ostler/safety.closure).close -/
def sc53:SC:=cTx 25 {bt:=λi=>if i=82 then true else false,fz:=T1,nd:=N0,lv:=λi=>if i=3 then [1,2,4] else if i=6 then [1,2,4,15,16,17] else []} Tryz.f53
def rs53:List SR:=cRx Tryz.f53
theorem fp53:PF 53 25 sc53 rs53:=mG Tryz.func53 rfl
/- ostler/term.Value$1 -/
def sc54:SC:=cTx 16 H0 Tryz.f54
def rs54:List SR:=cRx Tryz.f54
theorem fp54:PF 54 16 sc54 rs54:=mG Tryz.func54 rfl
/- ostler/term.every -/
def sc55:SC:=cTx 13 {bt:=λi=>if i=83 then true else false,fz:=T1,nd:=N0,lv:=N0} Tryz.f55
def rs55:List SR:=cRx Tryz.f55
theorem fp55:PF 55 13 sc55 rs55:=mG Tryz.func55 rfl
/- ostler/term.Valid -/
def sc56:SC:=cTx 10 {bt:=λi=>if i=55 then true else false,fz:=T1,nd:=N0,lv:=N0} Tryz.f56
def rs56:List SR:=cRx Tryz.f56
theorem fp56:PF 56 10 sc56 rs56:=mG Tryz.func56 rfl
/- ostler/match.find -/
def sc57:SC:=cTx 11 {bt:=λi=>if i=87 then true else false,fz:=T1,nd:=N0,lv:=N0} Tryz.f57
def rs57:List SR:=cRx Tryz.f57
theorem fp57:PF 57 11 sc57 rs57:=mG Tryz.func57 rfl
/- ostler/term.Equal -/
def sc58:SC:=cTx 9 H0 Tryz.f58
def rs58:List SR:=cRx Tryz.f58
theorem fp58:PF 58 9 sc58 rs58:=mG Tryz.func58 rfl
/- ostler/match.applier -/
def sc59:SC:=cTx 10 {bt:=λi=>if i=91 then true else false,fz:=T1,nd:=N0,lv:=N0} Tryz.f59
def rs59:List SR:=cRx Tryz.f59
theorem fp59:PF 59 10 sc59 rs59:=mG Tryz.func59 rfl
/- (ostler/match.change).term -/
def sc60:SC:=cTx 22 {bt:=λi=>if i=92 then true else false,fz:=T1,nd:=N0,lv:=N0} Tryz.f60
def rs60:List SR:=cRx Tryz.f60
theorem fp60:PF 60 22 sc60 rs60:=mG Tryz.func60 rfl
/- ostler/term.Ground$1 -/
def sc61:SC:=cTx 6 H0 Tryz.f61
def rs61:List SR:=cRx Tryz.f61
theorem fp61:PF 61 6 sc61 rs61:=mG Tryz.func61 rfl
def sc62:SC:=(.seq (.spec (.rcv 5 [so 6 (.ext (.tas 116 (.agg []))) [xt 5],mv 4 6,ex 7 0 4,ex 8 1 4,so 2 (.alloc []) [],sN 0 2 7,mv 3 8])) (rg [mv 9 3] (.cond (xt 9) (.reg [.st none (.c 1) (xt 0) (xc .nils),.st none (.c 1) (xt 1) (xc (.int .i64 5))]) .skip)))
def rs62:List SR:=[]
theorem fp62:PF 62 10 sc62 rs62:=mF H0 Tryz.func62 rfl rfl
/- ostler/arith.expand -/
def sc63:SC:=cTx 49 {bt:=F0,fz:=T1,nd:=λi=>if i=11 then [0,1,3,7,0,16,48,127,255,511] else [],lv:=λi=>if i=6 then [1,3,14,15,16] else []} Tryz.f63
def rs63:List SR:=cRx Tryz.f63
theorem fp63:PF 63 49 sc63 rs63:=mG Tryz.func63 rfl
/- ostler/arith.copied -/
def sc64:SC:=cTx 24 {bt:=F0,fz:=T1,nd:=λi=>if i=6 then [0,1,0,4,12,31,63,127] else [],lv:=λi=>if i=5 then [1,2,9,10,11] else []} Tryz.f64
def rs64:List SR:=cRx Tryz.f64
theorem fp64:PF 64 24 sc64 rs64:=mG Tryz.func64 rfl
/- ostler/match.copied$1 -/
def sc65:SC:=cTx 5 H0 Tryz.f65
def rs65:List SR:=cRx Tryz.f65
theorem fp65:PF 65 5 sc65 rs65:=mG Tryz.func65 rfl
/- ostler/ostlerref04.of -/
def sc66:SC:=cTx 19 H0 Tryz.f66
def rs66:List SR:=cRx Tryz.f66
theorem fp66:PF 66 19 sc66 rs66:=mG Tryz.func66 rfl
/- (*ostler/ostlerref04.In).rule -/
def sc67:SC:=cTx 34 {bt:=λi=>if i=98 then true else if i=99 then true else if i=100 then true else if i=101 then true else if i=102 then true else if i=103 then true else false,fz:=T1,nd:=N0,lv:=N0} Tryz.f67
def rs67:List SR:=cRx Tryz.f67
theorem fp67:PF 67 34 sc67 rs67:=mG Tryz.func67 rfl
/- (*ostler/ostlerref04.In).fail -/
def sc68:SC:=cTx 40 H0 Tryz.f68
def rs68:List SR:=cRx Tryz.f68
theorem fp68:PF 68 40 sc68 rs68:=mG Tryz.func68 rfl
/- ostler/safety.vars$1 -/
def sc69:SC:=cTx 26 {bt:=F0,fz:=T1,nd:=N0,lv:=λi=>if i=2 then [0,7,8,9] else if i=5 then [0,7,8,9,14,15,16] else []} Tryz.f69
def rs69:List SR:=cRx Tryz.f69
theorem fp69:PF 69 26 sc69 rs69:=mG Tryz.func69 rfl
/- ostler/term.Vars -/
def sc70:SC:=cTx 19 {bt:=λi=>if i=72 then true else if i=83 then true else if i=104 then true else false,fz:=λi=>if i=14 then false else true,nd:=N0,lv:=N0} Tryz.f70
def rs70:List SR:=cRx Tryz.f70
theorem fp70:PF 70 19 sc70 rs70:=mG Tryz.func70 rfl
/- slices.Collect[string] -/
def sc71:SC:=cTx 5 {bt:=λi=>if i=105 then true else false,fz:=T1,nd:=N0,lv:=N0,fg:=λi=>if i=2 then some [0] else none} Tryz.f71
def rs71:List SR:=cRx Tryz.f71
theorem fp71:PF 71 5 sc71 rs71:=mG Tryz.func71 rfl
/- slices.Sort[[]string,string] -/
def sc72:SC:=cTx 11 H0 Tryz.f72
def rs72:List SR:=cRx Tryz.f72
theorem fp72:PF 72 11 sc72 rs72:=mG Tryz.func72 rfl
/- maps.Keys[ostler/safety.set,string,struct{}]$1 -/
def sc73:SC:=cTx 14 {bt:=F0,fz:=T1,nd:=N0,lv:=λi=>if i=2 then [0,5] else []} Tryz.f73
def rs73:List SR:=cRx Tryz.f73
theorem fp73:PF 73 14 sc73 rs73:=mG Tryz.func73 rfl
/- (ostler/safety.set).has -/
def sc74:SC:=cTx 14 H0 Tryz.f74
def rs74:List SR:=cRx Tryz.f74
theorem fp74:PF 74 14 sc74 rs74:=mG Tryz.func74 rfl
/- internal/stringslite.HasPrefix -/
def sc75:SC:=cTx 18 H0 Tryz.f75
def rs75:List SR:=cRx Tryz.f75
theorem fp75:PF 75 18 sc75 rs75:=mG Tryz.func75 rfl
/- strings.trimLeftByte -/
def sc76:SC:=cTx 17 {bt:=F0,fz:=T1,nd:=N0,lv:=λi=>if i=2 then [0,1] else []} Tryz.f76
def rs76:List SR:=cRx Tryz.f76
theorem fp76:PF 76 17 sc76 rs76:=mG Tryz.func76 rfl
/- ostler/term.lower -/
def sc80:SC:=cTx 9 H0 Tryz.f80
def rs80:List SR:=cRx Tryz.f80
theorem fp80:PF 80 9 sc80 rs80:=mG Tryz.func80 rfl
/- (ostler/safety.closure).step -/
def sc82:SC:=cTx 40 {bt:=λi=>if i=29 then true else if i=30 then true else if i=112 then true else false,fz:=T1,nd:=λi=>if i=3 then [0,1,0,4,12,28,60,127] else [],lv:=N0} Tryz.f82
def rs82:List SR:=cRx Tryz.f82
theorem fp82:PF 82 40 sc82 rs82:=mG Tryz.func82 rfl
/- ostler/term.subterms -/
def sc83:SC:=cTx 4 H0 Tryz.f83
def rs83:List SR:=cRx Tryz.f83
theorem fp83:PF 83 4 sc83 rs83:=mG Tryz.func83 rfl
/- ostler/term.Depth -/
def sc84:SC:=cTx 20 {bt:=F0,fz:=T1,nd:=N0,lv:=λi=>if i=4 then [3,7,8,9] else []} Tryz.f84
def rs84:List SR:=cRx Tryz.f84
theorem fp84:PF 84 20 sc84 rs84:=mG Tryz.func84 rfl
/- ostler/term.Valid$1 -/
def sc85:SC:=cTx 6 H0 Tryz.f85
def rs85:List SR:=cRx Tryz.f85
theorem fp85:PF 85 6 sc85 rs85:=mG Tryz.func85 rfl
/- (ostler/term.node).shape -/
def sc86:SC:=cTx 47 H0 Tryz.f86
def rs86:List SR:=cRx Tryz.f86
theorem fp86:PF 86 47 sc86 rs86:=mG Tryz.func86 rfl
/- slices.BinarySearchFunc[ostler/api.Binding,ostler/api.Bind,string] -/
def sc87:SC:=cTx 49 {bt:=F0,fz:=T1,nd:=N0,lv:=λi=>if i=4 then [0,1,2,8,9,10] else []} Tryz.f87
def rs87:List SR:=cRx Tryz.f87
theorem fp87:PF 87 49 sc87 rs87:=mG Tryz.func87 rfl
/- ostler/match.find$1 -/
def sc88:SC:=cTx 9 H0 Tryz.f88
def rs88:List SR:=cRx Tryz.f88
theorem fp88:PF 88 9 sc88 rs88:=mG Tryz.func88 rfl
/- ostler/term.Compare -/
def sc90:SC:=cTx 54 {bt:=λi=>if i=128 then true else false,fz:=T1,nd:=λi=>if i=1 then [0,1,3,0,8,31,63,127] else if i=7 then [0,1,3,0,8,24,63,0,128,0,512,2047,0,4096,0,16384,65535,0,131072,0,524288,2097151,4194303,8388607,16777215] else [],lv:=N0} Tryz.f90
def rs90:List SR:=cRx Tryz.f90
theorem fp90:PF 90 54 sc90 rs90:=mG Tryz.func90 rfl
/- (*ostler/match.table).apply -/
def sc91:SC:=cTx 4 H0 Tryz.f91
def rs91:List SR:=cRx Tryz.f91
theorem fp91:PF 91 4 sc91 rs91:=mG Tryz.func91 rfl
/- (ostler/match.change).terms -/
def sc92:SC:=cTx 21 {bt:=λi=>if i=60 then true else false,fz:=T1,nd:=N0,lv:=λi=>if i=3 then [0,4,7,8,9] else []} Tryz.f92
def rs92:List SR:=cRx Tryz.f92
theorem fp92:PF 92 21 sc92 rs92:=mG Tryz.func92 rfl
/- ostler/arith.interval -/
def sc93:SC:=cTx 37 {bt:=F0,fz:=T1,nd:=N0,lv:=λi=>if i=7 then [4,6,7] else []} Tryz.f93
def rs93:List SR:=cRx Tryz.f93
theorem fp93:PF 93 37 sc93 rs93:=mG Tryz.func93 rfl
/- ostler/arith.integers -/
def sc94:SC:=cTx 21 {bt:=F0,fz:=T1,nd:=N0,lv:=λi=>if i=3 then [2,5,6,7] else []} Tryz.f94
def rs94:List SR:=cRx Tryz.f94
theorem fp94:PF 94 21 sc94 rs94:=mG Tryz.func94 rfl
/- ostler/arith.operation -/
def sc95:SC:=cTx 56 {bt:=λi=>if i=134 then true else if i=135 then true else if i=136 then true else false,fz:=λi=>if i=12 then false else if i=53 then false else true,nd:=N0,lv:=λi=>if i=4 then [2,5,14,15,16] else if i=17 then [12,44] else [],fg:=λi=>if i=2 then some [1,2] else if i=3 then some [1,2,5] else if i=8 then some [2,5] else if i=9 then some [2,5,8] else if i=15 then some [8] else if i=16 then some [8,12] else if i=20 then some [12] else none} Tryz.f95
def rs95:List SR:=cRx Tryz.f95
theorem fp95:PF 95 56 sc95 rs95:=mG Tryz.func95 rfl
/- ostler/arith.functions -/
def sc96:SC:=cTx 36 {bt:=λi=>if i=137 then true else if i=139 then true else if i=140 then true else false,fz:=λi=>if i=33 then false else true,nd:=λi=>if i=11 then [0,0,0,4,14,1,0,127,255,511,255] else [],lv:=λi=>if i=6 then [1,2,4,5,11,12,13] else [],fg:=λi=>if i=2 then some [1,2,4] else if i=4 then some [1,2,4] else if i=5 then some [1,2,4,5] else if i=10 then some [1,2,4] else if i=13 then some [4] else none} Tryz.f96
def rs96:List SR:=cRx Tryz.f96
theorem fp96:PF 96 36 sc96 rs96:=mG Tryz.func96 rfl
/- ostler/ostlerref03.Lex -/
def sc97:SC:=cTx 176 {bt:=F0,fz:=T1,nd:=N0,lv:=λi=>if i=6 then [0,5,6] else if i=10 then [0,5,6] else if i=20 then [0,5,6,7,8,9] else if i=26 then [0,5,6,7,8,9] else if i=32 then [0,5,6,7,8,9] else []} Tryz.f97
def rs97:List SR:=cRx Tryz.f97
theorem fp97:PF 97 176 sc97 rs97:=mG Tryz.func97 rfl
/- (*ostler/ostlerref04.In).is -/
def sc98:SC:=cTx 16 {bt:=λi=>if i=99 then true else false,fz:=T1,nd:=N0,lv:=N0} Tryz.f98
def rs98:List SR:=cRx Tryz.f98
theorem fp98:PF 98 16 sc98 rs98:=mG Tryz.func98 rfl
/- (*ostler/ostlerref04.In).sees -/
def sc99:SC:=cTx 17 {bt:=λi=>if i=147 then true else false,fz:=T1,nd:=N0,lv:=N0} Tryz.f99
def rs99:List SR:=cRx Tryz.f99
theorem fp99:PF 99 17 sc99 rs99:=mG Tryz.func99 rfl
/- (*ostler/ostlerref04.In).body -/
def ZoX:SC:=cTx 66 {bt:=λi=>if i=98 then true else if i=99 then true else if i=148 then true else if i=149 then true else if i=150 then true else if i=151 then true else false,fz:=T1,nd:=N0,lv:=λi=>if i=3 then [0,3] else []} Tryz.f100
def ZpS:List SR:=cRx Tryz.f100
theorem Zvd:PF 100 66 ZoX ZpS:=mG Tryz.func100 rfl
/- (*ostler/ostlerref04.In).must -/
def ZoW:SC:=cTx 14 {bt:=λi=>if i=68 then true else if i=98 then true else false,fz:=T1,nd:=N0,lv:=N0} Tryz.f101
def ZpR:List SR:=cRx Tryz.f101
theorem Zvc:PF 101 14 ZoW ZpR:=mG Tryz.func101 rfl
/- (*ostler/ostlerref04.In).cost -/
def ZoV:SC:=cTx 19 {bt:=λi=>if i=98 then true else if i=152 then true else if i=153 then true else false,fz:=T1,nd:=N0,lv:=N0} Tryz.f102
def ZpQ:List SR:=cRx Tryz.f102
theorem Zvb:PF 102 19 ZoV ZpQ:=mG Tryz.func102 rfl
/- (*ostler/ostlerref04.In).head -/
def ZoU:SC:=cTx 85 {bt:=λi=>if i=68 then true else if i=98 then true else if i=99 then true else if i=147 then true else if i=148 then true else if i=154 then true else if i=155 then true else if i=156 then true else if i=157 then true else false,fz:=T1,nd:=λi=>if i=19 then [0,1,0,4,12,28,63,127,255] else [],lv:=λi=>if i=18 then [0,2,6] else []} Tryz.f103
def ZpP:List SR:=cRx Tryz.f103
theorem Zva:PF 103 85 ZoU ZpP:=mG Tryz.func103 rfl
/- slices.Compact[[]string,string] -/
def ZoT:SC:=cTx 61 {bt:=F0,fz:=T1,nd:=λi=>if i=6 then [0,0,3,7,0,0,32,112,240,511] else if i=11 then [0,0,3,7,0,0,32,112,240,511] else [],lv:=λi=>if i=5 then [0,3] else if i=10 then [0,3,4,5] else []} Tryz.f104
def ZpO:List SR:=cRx Tryz.f104
theorem Zlk:PF 104 61 ZoT ZpO:=mG Tryz.func104 rfl
/- slices.AppendSeq[[]string,string] -/
def QK:SC:=cTx 13 {bt:=F0,fz:=λi=>if i=11 then false else true,nd:=N0,lv:=N0} Tryz.f105
def Zcq:List SR:=cRx Tryz.f105
theorem Zrr:PF 105 13 QK Zcq:=mG Tryz.func105 rfl
/- math/bits.Len -/
def ZoS:SC:=cTx 8 H0 Tryz.f107
def ZpN:List SR:=cRx Tryz.f107
theorem Zv9:PF 107 8 ZoS ZpN:=mG Tryz.func107 rfl
/- ostler/safety.outer -/
def ZaK:SC:=cTx 34 {bt:=F0,fz:=T1,nd:=λi=>if i=9 then [0,0,2,6,15,0,32,127,255,511] else [],lv:=λi=>if i=3 then [2,5,6,7] else []} Tryz.f111
def Zcp:List SR:=cRx Tryz.f111
theorem Zrq:PF 111 34 ZaK Zcp:=mG Tryz.func111 rfl
/- (ostler/safety.closure).equation -/
def ZjA:SC:=cTx 21 {bt:=λi=>if i=29 then true else if i=30 then true else if i=171 then true else false,fz:=T1,nd:=λi=>if i=2 then [0,1,0,4,12,28,63] else [],lv:=N0} Tryz.f112
def Zkr:List SR:=cRx Tryz.f112
theorem Zrp:PF 112 21 ZjA Zkr:=mG Tryz.func112 rfl
/- ostler/term.subterms$1 -/
def ZfF:SC:=cTx 6 {bt:=λi=>if i=114 then true else false,fz:=T1,nd:=N0,lv:=N0} Tryz.f113
def ZfM:List SR:=cRx Tryz.f113
theorem Zlj:PF 113 6 ZfF ZfM:=mG Tryz.func113 rfl
/- ostler/term.visit -/
def Z1I:SC:=cTx 23 {bt:=λi=>if i=114 then true else false,fz:=T1,nd:=N0,lv:=λi=>if i=5 then [1,12,13,14] else []} Tryz.f114
def Z2G:List SR:=cRx Tryz.f114
theorem Zgs:PF 114 23 Z1I Z2G:=mG Tryz.func114 rfl
/- (ostler/term.node).shape$1 -/
def Zjz:SC:=cTx 22 H0 Tryz.f116
def Zkq:List SR:=cRx Tryz.f116
theorem Zro:PF 116 22 Zjz Zkq:=mG Tryz.func116 rfl
/- (ostler/term.node).args -/
def Zjy:SC:=cTx 21 H0 Tryz.f117
def Zkp:List SR:=cRx Tryz.f117
theorem Zrn:PF 117 21 Zjy Zkp:=mG Tryz.func117 rfl
/- (ostler/term.node).shape$2 -/
def Zjx:SC:=cTx 14 H0 Tryz.f118
def Zko:List SR:=cRx Tryz.f118
theorem Zrm:PF 118 14 Zjx Zko:=mG Tryz.func118 rfl
/- ostler/term.Symbol -/
def Zjw:SC:=cTx 9 {bt:=λi=>if i=25 then true else false,fz:=T1,nd:=N0,lv:=N0} Tryz.f119
def Zkn:List SR:=cRx Tryz.f119
theorem Zrl:PF 119 9 Zjw Zkn:=mG Tryz.func119 rfl
/- (ostler/term.node).shape$3 -/
def Zjv:SC:=cTx 14 H0 Tryz.f120
def Zkm:List SR:=cRx Tryz.f120
theorem Zrk:PF 120 14 Zjv Zkm:=mG Tryz.func120 rfl
/- (ostler/term.node).shape$4 -/
def Zju:SC:=cTx 14 H0 Tryz.f121
def Zkl:List SR:=cRx Tryz.f121
theorem Zrj:PF 121 14 Zju Zkl:=mG Tryz.func121 rfl
/- (ostler/term.node).shape$5 -/
def Zjt:SC:=cTx 22 H0 Tryz.f122
def Zkk:List SR:=cRx Tryz.f122
theorem Zri:PF 122 22 Zjt Zkk:=mG Tryz.func122 rfl
/- (ostler/term.node).shape$6 -/
def Zjs:SC:=cTx 16 H0 Tryz.f123
def Zkj:List SR:=cRx Tryz.f123
theorem Zrh:PF 123 16 Zjs Zkj:=mG Tryz.func123 rfl
/- cmp.Compare[int] -/
def Zjr:SC:=cTx 20 H0 Tryz.f125
def Zki:List SR:=cRx Tryz.f125
theorem Zrg:PF 125 20 Zjr Zki:=mG Tryz.func125 rfl
/- ostler/term.rank -/
def Zjq:SC:=cTx 17 H0 Tryz.f126
def Zkh:List SR:=cRx Tryz.f126
theorem Zrf:PF 126 17 Zjq Zkh:=mG Tryz.func126 rfl
/- cmp.Or[int] -/
def Z7E:SC:=cTx 18 {bt:=F0,fz:=T1,nd:=N0,lv:=λi=>if i=4 then [3,6,7,8] else []} Tryz.f127
def Zco:List SR:=cRx Tryz.f127
theorem Zre:PF 127 18 Z7E Zco:=mG Tryz.func127 rfl
/- slices.CompareFunc[[]ostler/api.Term,[]ostler/api.Term,ostler/api.Term,ostler/api.Term] -/
def ZaJ:SC:=cTx 39 {bt:=F0,fz:=T1,nd:=N0,lv:=λi=>if i=3 then [0,1,2,11,12,13] else []} Tryz.f128
def Zcn:List SR:=cRx Tryz.f128
theorem Zrd:PF 128 39 ZaJ Zcn:=mG Tryz.func128 rfl
/- (*ostler/match.table).apply$1 -/
def Zjp:SC:=cTx 15 {bt:=λi=>if i=39 then true else false,fz:=T1,nd:=N0,lv:=N0} Tryz.f129
def Zkg:List SR:=cRx Tryz.f129
theorem Zgr:PF 129 15 Zjp Zkg:=mG Tryz.func129 rfl
/- slices.Min[[]int,int] -/
def ZaI:SC:=cTx 25 {bt:=F0,fz:=T1,nd:=N0,lv:=λi=>if i=6 then [0,3,4] else []} Tryz.f130
def Zcm:List SR:=cRx Tryz.f130
theorem Zrc:PF 130 25 ZaI Zcm:=mG Tryz.func130 rfl
/- slices.Max[[]int,int] -/
def ZaH:SC:=cTx 25 {bt:=F0,fz:=T1,nd:=N0,lv:=λi=>if i=6 then [0,3,4] else []} Tryz.f131
def Zcl:List SR:=cRx Tryz.f131
theorem Zrb:PF 131 25 ZaH Zcl:=mG Tryz.func131 rfl
/- ostler/arith.limited -/
def Zjo:SC:=cTx 8 H0 Tryz.f132
def Zkf:List SR:=cRx Tryz.f132
theorem Zra:PF 132 8 Zjo Zkf:=mG Tryz.func132 rfl
/- ostler/arith.number -/
def Zjn:SC:=cTx 5 H0 Tryz.f133
def Zke:List SR:=cRx Tryz.f133
theorem Zr9:PF 133 5 Zjn Zke:=mG Tryz.func133 rfl
/- ostler/arith.rows[int] -/
def Zjm:SC:=cTx 4 H0 Tryz.f134
def Zkd:List SR:=cRx Tryz.f134
theorem Zr8:PF 134 4 Zjm Zkd:=mG Tryz.func134 rfl
/- ostler/arith.Calc -/
def Zjl:SC:=cTx 34 {bt:=λi=>if i=178 then true else false,fz:=T1,nd:=λi=>if i=4 then [0,1,3,7,0,16,63,0,128,127,1023] else if i=6 then [0,0,2,6,0,16,48,127,255,255,1023,2047] else [],lv:=N0} Tryz.f135
def Zkc:List SR:=cRx Tryz.f135
theorem Zr7:PF 135 34 Zjl Zkc:=mG Tryz.func135 rfl
/- ostler/arith.set -/
def Zjk:SC:=cTx 11 {bt:=λi=>if i=183 then true else if i=184 then true else false,fz:=T1,nd:=N0,lv:=N0} Tryz.f136
def Zkb:List SR:=cRx Tryz.f136
theorem Zr6:PF 136 11 Zjk Zkb:=mG Tryz.func136 rfl
/- slices.ContainsFunc[[][]ostler/api.Term,[]ostler/api.Term] -/
def Zjj:SC:=cTx 9 {bt:=λi=>if i=185 then true else false,fz:=T1,nd:=N0,lv:=N0} Tryz.f137
def Zka:List SR:=cRx Tryz.f137
theorem Zr5:PF 137 9 Zjj Zka:=mG Tryz.func137 rfl
/- ostler/arith.functions$1 -/
def Zji:SC:=cTx 6 H0 Tryz.f138
def Zk9:List SR:=cRx Tryz.f138
theorem Zr4:PF 138 6 Zji Zk9:=mG Tryz.func138 rfl
/- ostler/arith.rows[ostler/api.Term] -/
def Zjh:SC:=cTx 4 H0 Tryz.f139
def Zk8:List SR:=cRx Tryz.f139
theorem Zr3:PF 139 4 Zjh Zk8:=mG Tryz.func139 rfl
/- slices.Clone[[]ostler/api.Term,ostler/api.Term] -/
def Zjg:SC:=cTx 8 H0 Tryz.f140
def Zk7:List SR:=cRx Tryz.f140
theorem Zr2:PF 140 8 Zjg Zk7:=mG Tryz.func140 rfl
/- ostler/ostlerref03.blank -/
def ZoR:SC:=cTx 17 H0 Tryz.f141
def ZpM:List SR:=cRx Tryz.f141
theorem Zv8:PF 141 17 ZoR ZpM:=mG Tryz.func141 rfl
/- ostler/ostlerref03.letter -/
def ZoQ:SC:=cTx 17 H0 Tryz.f142
def ZpL:List SR:=cRx Tryz.f142
theorem Zv7:PF 142 17 ZoQ ZpL:=mG Tryz.func142 rfl
/- ostler/ostlerref03.digit -/
def ZoP:SC:=cTx 9 H0 Tryz.f143
def ZpK:List SR:=cRx Tryz.f143
theorem Zv6:PF 143 9 ZoP ZpK:=mG Tryz.func143 rfl
/- ostler/ostlerref03.word -/
def ZoO:SC:=cTx 9 H0 Tryz.f144
def ZpJ:List SR:=cRx Tryz.f144
theorem Zv5:PF 144 9 ZoO ZpJ:=mG Tryz.func144 rfl
/- ostler/ostlerref03.number -/
def ZoN:SC:=cTx 30 {bt:=F0,fz:=T1,nd:=N0,lv:=λi=>if i=4 then [0,3,4] else []} Tryz.f145
def ZpI:List SR:=cRx Tryz.f145
theorem Zv4:PF 145 30 ZoN ZpI:=mG Tryz.func145 rfl
/- ostler/ostlerref03.sign -/
def ZoM:SC:=cTx 53 {bt:=F0,fz:=T1,nd:=λi=>if i=9 then [0,0,3,0,0,24,63] else [],lv:=λi=>if i=8 then [0,1,6,7] else []} Tryz.f146
def ZpH:List SR:=cRx Tryz.f146
theorem Zv3:PF 146 53 ZoM ZpH:=mG Tryz.func146 rfl
/- (*ostler/ostlerref04.In).here -/
def ZoL:SC:=cTx 35 {bt:=F0,fz:=T1,nd:=λi=>if i=1 then [0,1,3,7,15,31,63,127,255,511,63,1087,3135,7231,15423,32767,65535] else if i=3 then [0,1,3,7,0,16,48,112,255,511,1023] else [],lv:=N0} Tryz.f147
def ZpG:List SR:=cRx Tryz.f147
theorem Zv2:PF 147 35 ZoL ZpG:=mG Tryz.func147 rfl
/- (*ostler/ostlerref04.In).room -/
def ZoK:SC:=cTx 15 {bt:=λi=>if i=68 then true else false,fz:=T1,nd:=N0,lv:=N0} Tryz.f148
def ZpF:List SR:=cRx Tryz.f148
theorem Zv1:PF 148 15 ZoK ZpF:=mG Tryz.func148 rfl
/- (*ostler/ostlerref04.In).aggregate -/
def ZoJ:SC:=cTx 65 {bt:=λi=>if i=68 then true else if i=98 then true else if i=101 then true else if i=148 then true else if i=151 then true else if i=152 then true else if i=153 then true else if i=190 then true else false,fz:=λi=>if i=8 then false else true,nd:=λi=>if i=8 then [0,1,0,0,8,28,60,127,255,511] else [],lv:=λi=>if i=7 then [0,4,5] else []} Tryz.f149
def ZpE:List SR:=cRx Tryz.f149
theorem Zv0:PF 149 65 ZoJ ZpE:=mG Tryz.func149 rfl
/- (*ostler/ostlerref04.In).literal -/
def ZoI:SC:=cTx 77 {bt:=λi=>if i=68 then true else if i=147 then true else if i=152 then true else if i=155 then true else if i=156 then true else if i=157 then true else if i=190 then true else false,fz:=T1,nd:=λi=>if i=10 then [0,0,0,4,15,31] else [],lv:=N0} Tryz.f150
def ZpD:List SR:=cRx Tryz.f150
theorem ZuZ:PF 150 77 ZoI ZpD:=mG Tryz.func150 rfl
/- (*ostler/ostlerref04.In).when -/
def ZoH:SC:=cTx 7 {bt:=λi=>if i=98 then true else if i=191 then true else false,fz:=T1,nd:=N0,lv:=N0} Tryz.f151
def ZpC:List SR:=cRx Tryz.f151
theorem ZuY:PF 151 7 ZoH ZpC:=mG Tryz.func151 rfl
/- (*ostler/ostlerref04.In).term -/
def ZoG:SC:=cTx 16 {bt:=λi=>if i=155 then true else if i=156 then true else false,fz:=T1,nd:=N0,lv:=N0} Tryz.f152
def ZpB:List SR:=cRx Tryz.f152
theorem ZuX:PF 152 16 ZoG ZpB:=mG Tryz.func152 rfl
/- (*ostler/ostlerref04.In).tuple -/
def ZoF:SC:=cTx 17 {bt:=λi=>if i=98 then true else if i=148 then true else if i=152 then true else false,fz:=T1,nd:=N0,lv:=λi=>if i=3 then [0,3] else []} Tryz.f153
def ZpA:List SR:=cRx Tryz.f153
theorem ZuW:PF 153 17 ZoF ZpA:=mG Tryz.func153 rfl
/- (*ostler/ostlerref04.In).choice -/
def ZoE:SC:=cTx 44 {bt:=λi=>if i=98 then true else if i=99 then true else if i=101 then true else if i=148 then true else if i=151 then true else if i=152 then true else if i=157 then true else false,fz:=λi=>if i=8 then false else true,nd:=λi=>if i=5 then [0,1,0,0,8,28,60,127,255,511] else [],lv:=λi=>if i=4 then [0,4,5] else []} Tryz.f154
def Zpz:List SR:=cRx Tryz.f154
theorem ZuV:PF 154 44 ZoE Zpz:=mG Tryz.func154 rfl
/- (*ostler/ostlerref04.In).part -/
def ZoD:SC:=cTx 14 {bt:=λi=>if i=98 then true else if i=192 then true else false,fz:=T1,nd:=λi=>if i=3 then [0,0,2,7,15,31] else [],lv:=N0} Tryz.f155
def Zpy:List SR:=cRx Tryz.f155
theorem ZuU:PF 155 14 ZoD Zpy:=mG Tryz.func155 rfl
/- (*ostler/ostlerref04.In).deep -/
def ZoC:SC:=cTx 16 {bt:=λi=>if i=68 then true else false,fz:=T1,nd:=N0,lv:=N0} Tryz.f156
def Zpx:List SR:=cRx Tryz.f156
theorem ZuT:PF 156 16 ZoC Zpx:=mG Tryz.func156 rfl
/- (*ostler/ostlerref04.In).atom -/
def ZoB:SC:=cTx 20 {bt:=λi=>if i=156 then true else if i=194 then true else false,fz:=T1,nd:=N0,lv:=N0} Tryz.f157
def Zpw:List SR:=cRx Tryz.f157
theorem ZuS:PF 157 20 ZoB Zpw:=mG Tryz.func157 rfl
/- math/bits.Len32 -/
def ZoA:SC:=cTx 19 H0 Tryz.f167
def Zpv:List SR:=cRx Tryz.f167
theorem ZuR:PF 167 19 ZoA Zpv:=mG Tryz.func167 rfl
/- math/bits.Len64 -/
def Zoz:SC:=cTx 25 H0 Tryz.f168
def Zpu:List SR:=cRx Tryz.f168
theorem ZuQ:PF 168 25 Zoz Zpu:=mG Tryz.func168 rfl
/- (ostler/safety.closure).knows -/
def Zjf:SC:=cTx 10 {bt:=λi=>if i=205 then true else false,fz:=T1,nd:=N0,lv:=N0} Tryz.f171
def Zk6:List SR:=cRx Tryz.f171
theorem Zr1:PF 171 10 Zjf Zk6:=mG Tryz.func171 rfl
/- cmp.isNaN[int] -/
def Zje:SC:=cTx 6 H0 Tryz.f174
def Zk5:List SR:=cRx Tryz.f174
theorem Zr0:PF 174 6 Zje Zk5:=mG Tryz.func174 rfl
/- slices.Index[[]uint8,uint8] -/
def Z7D:SC:=cTx 19 {bt:=F0,fz:=T1,nd:=N0,lv:=λi=>if i=3 then [0,1,7,8] else []} Tryz.f175
def Zck:List SR:=cRx Tryz.f175
theorem ZqZ:PF 175 19 Z7D Zck:=mG Tryz.func175 rfl
/- ostler/arith.rows[int]$1 -/
def Zjd:SC:=cTx 11 {bt:=F0,fz:=λi=>if i=7 then false else true,nd:=N0,lv:=N0} Tryz.f176
def Zk4:List SR:=cRx Tryz.f176
theorem ZqY:PF 176 11 Zjd Zk4:=mG Tryz.func176 rfl
/- ostler/arith.rows[int]$1$1 -/
def ZaG:SC:=cTx 35 {bt:=F0,fz:=T1,nd:=N0,lv:=λi=>if i=5 then [0,3,4,19,20,21] else []} Tryz.f177
def Zcj:List SR:=cRx Tryz.f177
theorem Zli:PF 177 35 ZaG Zcj:=mG Tryz.func177 rfl
/- slices.ContainsFunc[[]int,int] -/
def Zjc:SC:=cTx 9 {bt:=λi=>if i=208 then true else false,fz:=T1,nd:=N0,lv:=N0} Tryz.f178
def Zk3:List SR:=cRx Tryz.f178
theorem ZqX:PF 178 9 Zjc Zk3:=mG Tryz.func178 rfl
/- ostler/arith.Calc$1 -/
def Zjb:SC:=cTx 6 H0 Tryz.f179
def Zk2:List SR:=cRx Tryz.f179
theorem ZqW:PF 179 6 Zjb Zk2:=mG Tryz.func179 rfl
/- ostler/arith.fits -/
def Zja:SC:=cTx 9 H0 Tryz.f180
def Zk1:List SR:=cRx Tryz.f180
theorem ZqV:PF 180 9 Zja Zk1:=mG Tryz.func180 rfl
/- ostler/arith.sign -/
def Zj9:SC:=cTx 5 H0 Tryz.f181
def Zk0:List SR:=cRx Tryz.f181
theorem ZqU:PF 181 5 Zj9 Zk0:=mG Tryz.func181 rfl
/- ostler/arith.calc -/
def Zj8:SC:=cTx 39 H0 Tryz.f182
def ZjZ:List SR:=cRx Tryz.f182
theorem ZqT:PF 182 39 Zj8 ZjZ:=mG Tryz.func182 rfl
/- slices.SortFunc[[]ostler/api.Term,ostler/api.Term] -/
def Zoy:SC:=cTx 14 {bt:=λi=>if i=214 then true else false,fz:=T1,nd:=N0,lv:=N0} Tryz.f183
def Zpt:List SR:=cRx Tryz.f183
theorem ZuP:PF 183 14 Zoy Zpt:=mG Tryz.func183 rfl
/- slices.CompactFunc[[]ostler/api.Term,ostler/api.Term] -/
def ZaF:SC:=cTx 66 {bt:=F0,fz:=T1,nd:=λi=>if i=6 then [0,0,0,6,14,0,0,64,224,480,1023] else if i=11 then [0,0,0,6,14,0,0,64,224,480,1023,2047] else [],lv:=λi=>if i=5 then [0,1,5] else if i=10 then [0,1,5,6,7] else []} Tryz.f184
def Zci:List SR:=cRx Tryz.f184
theorem ZqS:PF 184 66 ZaF Zci:=mG Tryz.func184 rfl
/- slices.IndexFunc[[][]ostler/api.Term,[]ostler/api.Term] -/
def ZaE:SC:=cTx 19 {bt:=F0,fz:=T1,nd:=N0,lv:=λi=>if i=3 then [0,1,7,8] else []} Tryz.f185
def Zch:List SR:=cRx Tryz.f185
theorem ZqR:PF 185 19 ZaE Zch:=mG Tryz.func185 rfl
/- ostler/arith.rows[ostler/api.Term]$1 -/
def Zj7:SC:=cTx 11 {bt:=F0,fz:=λi=>if i=7 then false else true,nd:=N0,lv:=N0} Tryz.f186
def ZjY:List SR:=cRx Tryz.f186
theorem ZqQ:PF 186 11 Zj7 ZjY:=mG Tryz.func186 rfl
/- ostler/arith.rows[ostler/api.Term]$1$1 -/
def Z38:SC:=cTx 35 {bt:=F0,fz:=T1,nd:=N0,lv:=λi=>if i=5 then [0,3,4,19,20,21] else []} Tryz.f187
def Z4v:List SR:=cRx Tryz.f187
theorem Zdp:PF 187 35 Z38 Z4v:=mG Tryz.func187 rfl
/- ostler/ostlerref01.Symbol -/
def Zox:SC:=cTx 25 H0 Tryz.f188
def Zps:List SR:=cRx Tryz.f188
theorem ZuO:PF 188 25 Zox Zps:=mG Tryz.func188 rfl
/- ostler/ostlerref01.Variable -/
def Zow:SC:=cTx 38 {bt:=F0,fz:=T1,nd:=N0,lv:=λi=>if i=8 then [0,4] else []} Tryz.f189
def Zpr:List SR:=cRx Tryz.f189
theorem ZuN:PF 189 38 Zow Zpr:=mG Tryz.func189 rfl
/- (*ostler/ostlerref04.In).comparison -/
def Zov:SC:=cTx 21 {bt:=λi=>if i=99 then true else false,fz:=T1,nd:=N0,lv:=λi=>if i=4 then [0,3,4] else []} Tryz.f190
def Zpq:List SR:=cRx Tryz.f190
theorem ZuM:PF 190 21 Zov Zpq:=mG Tryz.func190 rfl
/- (*ostler/ostlerref04.In).condition -/
def Zou:SC:=cTx 21 {bt:=λi=>if i=98 then true else if i=148 then true else if i=150 then true else false,fz:=T1,nd:=N0,lv:=λi=>if i=3 then [0,3] else []} Tryz.f191
def Zpp:List SR:=cRx Tryz.f191
theorem ZuL:PF 191 21 Zou Zpp:=mG Tryz.func191 rfl
/- (*ostler/ostlerref04.In).sum -/
def Zot:SC:=cTx 30 {bt:=λi=>if i=99 then true else if i=147 then true else if i=220 then true else false,fz:=T1,nd:=λi=>if i=5 then [0,0,0,4,14,31,63] else [],lv:=λi=>if i=3 then [0,2,3] else []} Tryz.f192
def Zpo:List SR:=cRx Tryz.f192
theorem ZuK:PF 192 30 Zot Zpo:=mG Tryz.func192 rfl
/- ostler/ostlerref01.Depth -/
def Zos:SC:=cTx 22 {bt:=F0,fz:=T1,nd:=N0,lv:=λi=>if i=4 then [1,3,4] else []} Tryz.f193
def Zpn:List SR:=cRx Tryz.f193
theorem ZuJ:PF 193 22 Zos Zpn:=mG Tryz.func193 rfl
/- (*ostler/ostlerref04.In).named -/
def Zor:SC:=cTx 30 {bt:=λi=>if i=98 then true else if i=101 then true else if i=148 then true else if i=155 then true else if i=222 then true else false,fz:=λi=>if i=6 then false else true,nd:=λi=>if i=6 then [0,1,0,4,12,31,63,127] else [],lv:=λi=>if i=6 then [0,2,3] else []} Tryz.f194
def Zpm:List SR:=cRx Tryz.f194
theorem ZuI:PF 194 30 Zor Zpm:=mG Tryz.func194 rfl
/- slices.ContainsFunc[[]string,string] -/
def Zj6:SC:=cTx 9 {bt:=λi=>if i=225 then true else false,fz:=T1,nd:=N0,lv:=N0} Tryz.f205
def ZjX:List SR:=cRx Tryz.f205
theorem ZqP:PF 205 9 Zj6 ZjX:=mG Tryz.func205 rfl
/- (ostler/safety.closure).knows$1 -/
def Zj5:SC:=cTx 9 {bt:=λi=>if i=74 then true else false,fz:=T1,nd:=N0,lv:=N0} Tryz.f206
def ZjW:List SR:=cRx Tryz.f206
theorem ZqO:PF 206 9 Zj5 ZjW:=mG Tryz.func206 rfl
/- slices.IndexFunc[[]int,int] -/
def ZaD:SC:=cTx 19 {bt:=F0,fz:=T1,nd:=N0,lv:=λi=>if i=3 then [0,1,7,8] else []} Tryz.f208
def Zcg:List SR:=cRx Tryz.f208
theorem ZqN:PF 208 19 ZaD Zcg:=mG Tryz.func208 rfl
/- ostler/arith.calc$1 -/
def Zj4:SC:=cTx 6 H0 Tryz.f209
def ZjV:List SR:=cRx Tryz.f209
theorem ZqM:PF 209 6 Zj4 ZjV:=mG Tryz.func209 rfl
/- ostler/arith.calc$2 -/
def Zj3:SC:=cTx 6 H0 Tryz.f210
def ZjU:List SR:=cRx Tryz.f210
theorem ZqL:PF 210 6 Zj3 ZjU:=mG Tryz.func210 rfl
/- ostler/arith.calc$3 -/
def Zj2:SC:=cTx 6 H0 Tryz.f211
def ZjT:List SR:=cRx Tryz.f211
theorem ZqK:PF 211 6 Zj2 ZjT:=mG Tryz.func211 rfl
/- ostler/arith.calc$4 -/
def Zj1:SC:=cTx 6 H0 Tryz.f212
def ZjS:List SR:=cRx Tryz.f212
theorem ZqJ:PF 212 6 Zj1 ZjS:=mG Tryz.func212 rfl
/- ostler/arith.calc$5 -/
def Zj0:SC:=cTx 6 H0 Tryz.f213
def ZjR:List SR:=cRx Tryz.f213
theorem ZqI:PF 213 6 Zj0 ZjR:=mG Tryz.func213 rfl
/- slices.pdqsortCmpFunc[ostler/api.Term] -/
def Zoq:SC:=cTx 148 {bt:=λi=>if i=214 then true else if i=227 then true else if i=228 then true else if i=229 then true else if i=230 then true else if i=231 then true else if i=232 then true else if i=233 then true else if i=234 then true else false,fz:=T1,nd:=λi=>if i=17 then [0,1,3,7,7,7,39,119,247,7,7,1543,3591,8191,16383,32767,65535] else [],lv:=λi=>if i=3 then [0,1,2,3,4,10,11] else []} Tryz.f214
def Zpl:List SR:=cRx Tryz.f214
theorem ZuH:PF 214 148 Zoq Zpl:=mG Tryz.func214 rfl
/- ostler/ostlerref01.underscores -/
def Zop:SC:=cTx 17 {bt:=F0,fz:=T1,nd:=N0,lv:=λi=>if i=3 then [0,3] else []} Tryz.f215
def Zpk:List SR:=cRx Tryz.f215
theorem ZuG:PF 215 17 Zop Zpk:=mG Tryz.func215 rfl
/- ostler/ostlerref01.lower -/
def Zoo:SC:=cTx 9 H0 Tryz.f216
def Zpj:List SR:=cRx Tryz.f216
theorem ZuF:PF 216 9 Zoo Zpj:=mG Tryz.func216 rfl
/- ostler/ostlerref01.word -/
def Zon:SC:=cTx 41 {bt:=F0,fz:=T1,nd:=N0,lv:=λi=>if i=3 then [0,5] else []} Tryz.f217
def Zpi:List SR:=cRx Tryz.f217
theorem ZuE:PF 217 41 Zon Zpi:=mG Tryz.func217 rfl
/- ostler/ostlerref01.upper -/
def Zom:SC:=cTx 9 H0 Tryz.f218
def Zph:List SR:=cRx Tryz.f218
theorem ZuD:PF 218 9 Zom Zph:=mG Tryz.func218 rfl
/- ostler/ostlerref01.digit -/
def Zol:SC:=cTx 9 H0 Tryz.f219
def Zpg:List SR:=cRx Tryz.f219
theorem ZuC:PF 219 9 Zol Zpg:=mG Tryz.func219 rfl
/- (*ostler/ostlerref04.In).product -/
def Zok:SC:=cTx 34 {bt:=λi=>if i=99 then true else if i=147 then true else if i=235 then true else false,fz:=T1,nd:=λi=>if i=5 then [0,0,0,4,14,31,63] else [],lv:=λi=>if i=3 then [0,2,3] else []} Tryz.f220
def Zpf:List SR:=cRx Tryz.f220
theorem ZuB:PF 220 34 Zok Zpf:=mG Tryz.func220 rfl
/- ostler/ostlerref04.op -/
def Zoj:SC:=cTx 8 H0 Tryz.f221
def Zpe:List SR:=cRx Tryz.f221
theorem ZuA:PF 221 8 Zoj Zpe:=mG Tryz.func221 rfl
/- (*ostler/ostlerref04.In).kind -/
def Zoi:SC:=cTx 27 {bt:=λi=>if i=68 then true else if i=147 then true else false,fz:=T1,nd:=N0,lv:=N0} Tryz.f222
def Zpd:List SR:=cRx Tryz.f222
theorem Zuz:PF 222 27 Zoi Zpd:=mG Tryz.func222 rfl
/- slices.IndexFunc[[]string,string] -/
def ZaC:SC:=cTx 19 {bt:=F0,fz:=T1,nd:=N0,lv:=λi=>if i=3 then [0,1,7,8] else []} Tryz.f225
def Zcf:List SR:=cRx Tryz.f225
theorem ZqH:PF 225 19 ZaC Zcf:=mG Tryz.func225 rfl
/- slices.insertionSortCmpFunc[ostler/api.Term] -/
def Zoh:SC:=cTx 53 {bt:=F0,fz:=T1,nd:=λi=>if i=4 then [0,0,3,7,15,15,15,111,239,15,15,1039,3599,7695,16383,32767,65535] else if i=6 then [0,0,0,0,8,0,0,64,224,480,0,0,3072,7168,16355,32739,65535,131071] else [],lv:=λi=>if i=2 then [0,1,2,3,8] else if i=5 then [0,1,2,3,8,9] else []} Tryz.f227
def Zpc:List SR:=cRx Tryz.f227
theorem Zuy:PF 227 53 Zoh Zpc:=mG Tryz.func227 rfl
/- (*ostler/ostlerref04.In).factor -/
def Zog:SC:=cTx 54 {bt:=λi=>if i=98 then true else if i=101 then true else if i=147 then true else if i=155 then true else if i=194 then true else if i=222 then true else if i=235 then true else false,fz:=T1,nd:=N0,lv:=N0} Tryz.f235
def Zpb:List SR:=cRx Tryz.f235
theorem Zux:PF 235 54 Zog Zpb:=mG Tryz.func235 rfl
/- ostler/ostlerref04.value -/
def Zof:SC:=cTx 20 {bt:=F0,fz:=T1,nd:=N0,lv:=λi=>if i=4 then [0,3,4] else []} Tryz.f241
def Zpa:List SR:=cRx Tryz.f241
theorem Zuw:PF 241 20 Zof Zpa:=mG Tryz.func241 rfl
end Go.Proofs.YtaclfbhhekhflaaGreatDoor
