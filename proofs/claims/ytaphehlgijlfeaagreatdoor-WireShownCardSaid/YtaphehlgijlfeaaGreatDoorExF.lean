import Derived.Test.YtaphehlgijlfeaaGreatDoorExA
set_option linter.unusedVariables false
set_option linter.unusedSimpArgs false
section
namespace Go.Av
open Go.Proofs Go.Bv
set_option maxRecDepth 100000
theorem d46:ACall Tryz.prog GT 46 [eBk bkB, eS [97, 98, 98, 63, 116], ei 1] (.tup [zO [0, 2], ei 0]):=qW jR gT (n:=10000) (drt:=drW) (by kernel_rfl)
end Go.Av
end
section
namespace Go.Av
open Go.Proofs Go.Bv
set_option maxRecDepth 100000
theorem d70:ACall Tryz.prog GT 70 [.agg (qK zlW), eBk bkB, zO [75810, 27030]] (.tup [jD [[97, 98, 97, 102, 116], [57, 50, 56, 52, 48]], ei 0]):=qW jR gT (n:=10000) (drt:=drW) (by kernel_rfl)
end Go.Av
end
