/- The tokens of the second source. -/
import Derived.Test.YtaclfbhhekhflaaGreatDoorRun
import Derived.Test.YtaclfbhhekhflaaGreatDoorLibT
set_option linter.all false
noncomputable section
namespace Go.Proofs.YtaclfbhhekhflaaGreatDoor.S
open Go.Sx
set_option maxRecDepth 100000
def tokB:LD:=[[dI 1,dS [97],dI 0],[dI 6,dS [58,45],dI 2],[dI 1,dS [98],dI 5],[dI 6,dS [40],dI 6],[dI 2,dS [88],dI 7],[dI 6,dS [41],dI 8],[dI 6,dS [58],dI 10],[dI 1,dS [99],dI 12],[dI 6,dS [40],dI 13],[dI 2,dS [89],dI 14],[dI 6,dS [41],dI 15],[dI 6,dS [44],dI 16],[dI 2,dS [89],dI 18],[dI 6,dS [61],dI 20],[dI 2,dS [88],dI 22],[dI 6,dS [59],dI 23],[dI 1,dS [100],dI 25],[dI 6,dS [40],dI 26],[dI 2,dS [90],dI 27],[dI 6,dS [43],dI 28],[dI 3,dS [49],dI 29],[dI 6,dS [41],dI 30],[dI 6,dS [46],dI 31]]
theorem lexB:FK 97 [.str [97,32,58,45,32,98,40,88,41,32,58,32,99,40,89,41,44,32,89,32,61,32,88,59,32,100,40,90,43,49,41,46]] (.tuple [.slice tokB [],.int .i64 0,.int .i64 0]):=Z41 Z3 Z2X 20000 (by kernel_rfl)
end Go.Proofs.YtaclfbhhekhflaaGreatDoor.S
