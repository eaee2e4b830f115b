import Derived.Test.YtaphehlgijlfeaaGreatDoorExA
set_option linter.unusedVariables false
set_option linter.unusedSimpArgs false
section
namespace Go.Av
open Go.Proofs Go.Bv
set_option maxRecDepth 100000
theorem d43:ACall Tryz.prog GT 43 [.agg (qK zlW), qO [cpA]] (.tup [ei 0, ei 1, ei 0]):=qW jR gT (n:=10000) (drt:=drW) (by kernel_rfl)
end Go.Av
end
