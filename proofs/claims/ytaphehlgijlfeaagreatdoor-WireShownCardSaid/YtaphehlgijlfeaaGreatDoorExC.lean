import Derived.Test.YtaphehlgijlfeaaGreatDoorExA
set_option linter.unusedVariables false
set_option linter.unusedSimpArgs false
section
namespace Go.Av
open Go.Proofs Go.Bv
set_option maxRecDepth 100000
theorem d25:ACall Tryz.prog GT 25 [.agg (qK zlW), qO [cpA]] (.tup [jD [[55, 53, 63, 49, 48], [50, 55, 48, 51, 48]], ei 0]):=qW jR gT (n:=10000) (drt:=drW) (by kernel_rfl)
end Go.Av
end
