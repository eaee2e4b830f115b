import Derived.Test.YtaphehlgijlfeaaGreatDoorExA
set_option linter.unusedVariables false
set_option linter.unusedSimpArgs false
section
namespace Go.Av
open Go.Proofs Go.Bv
set_option maxRecDepth 100000
theorem d51:ACall Tryz.prog GT 51 [.agg (eNt zsv), ei 0, ei 3, ei 3, ei 2] (.tup [zO [0, 1], ei 30, ei 0]):=qW jR gT (n:=10000) (drt:=drW) (by kernel_rfl)
end Go.Av
end
