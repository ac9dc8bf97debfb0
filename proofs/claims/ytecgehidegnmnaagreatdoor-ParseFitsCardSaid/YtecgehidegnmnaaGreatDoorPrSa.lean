/- Own work: a layer over the kit: plain data,a walk over it,its soundness. -/
import Derived.Test.YtecgehidegnmnaaGreatDoorShape
import Derived.Test.YtecgehidegnmnaaGreatDoorPrR
import Derived.Test.YtecgehidegnmnaaGreatDoorSx11
set_option linter.all false
set_option maxRecDepth 100000
/- The kit's comparisons: trees. -/
namespace Go.Proofs.YtecgehidegnmnaaGreatDoor
open Go.Sx
end Go.Proofs.YtecgehidegnmnaaGreatDoor
/- The kit's comparisons hold of equal things. -/
namespace Go.Proofs.YtecgehidegnmnaaGreatDoor
open Go.Sx
open Go.Sx.Ps (LtW CdW TuW ElW BoW HeW RuW CoW AcW)
end Go.Proofs.YtecgehidegnmnaaGreatDoor
/- Single rules. -/
namespace Go.Proofs.YtecgehidegnmnaaGreatDoor
open Go.Sx
open Go.Sx.Lx (Tk Zo)
open Go.Sx.Ps (Ac)
def fnT (l:List (FuncId × D)):PT:=λf xs=>match lk l f with
 |some r=>some (.ok (FK f xs r) r [])
 |none=>libT f xs
theorem QH (l:List (FuncId × D)):(fnT l).OK:=by
 intro f xs rt h;unfold fnT at h;split at h
 ·cases h;exactλhp=>hp
 ·exact Z3 _ _ _ h
end Go.Proofs.YtecgehidegnmnaaGreatDoor
