/- The tokens of the first source. -/
import Derived.Test.YtaclfbhhekhflaaGreatDoorRun
import Derived.Test.YtaclfbhhekhflaaGreatDoorLibT
set_option linter.all false
noncomputable section
namespace Go.Proofs.YtaclfbhhekhflaaGreatDoor.S
open Go.Sx
set_option maxRecDepth 100000
def tokA:LD:=[[dI 1,dS [112],dI 0],[dI 6,dS [40],dI 1],[dI 2,dS [88],dI 2],[dI 6,dS [44],dI 3],[dI 2,dS [90],dI 4],[dI 6,dS [41],dI 5],[dI 6,dS [58,45],dI 7],[dI 1,dS [113],dI 10],[dI 6,dS [40],dI 11],[dI 2,dS [88],dI 12],[dI 6,dS [44],dI 13],[dI 2,dS [89],dI 14],[dI 6,dS [43],dI 15],[dI 3,dS [49],dI 16],[dI 6,dS [41],dI 17],[dI 6,dS [44],dI 18],[dI 4,dS [110,111,116],dI 20],[dI 1,dS [114],dI 24],[dI 6,dS [40],dI 25],[dI 2,dS [87],dI 26],[dI 6,dS [41],dI 27],[dI 6,dS [44],dI 28],[dI 2,dS [90],dI 30],[dI 6,dS [61],dI 32],[dI 2,dS [88],dI 34],[dI 6,dS [42],dI 35],[dI 3,dS [50],dI 36],[dI 6,dS [46],dI 37]]
theorem lexA:FK 97 [.str [112,40,88,44,90,41,32,58,45,32,113,40,88,44,89,43,49,41,44,32,110,111,116,32,114,40,87,41,44,32,90,32,61,32,88,42,50,46]] (.tuple [.slice tokA [],.int .i64 0,.int .i64 0]):=Z41 Z3 Z2X 20000 (by kernel_rfl)
end Go.Proofs.YtaclfbhhekhflaaGreatDoor.S
