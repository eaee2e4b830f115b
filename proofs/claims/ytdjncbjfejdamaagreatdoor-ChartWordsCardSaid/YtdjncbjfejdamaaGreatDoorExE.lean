import Derived.Test.YtdjncbjfejdamaaGreatDoorExA
set_option linter.unusedVariables false
set_option linter.unusedSimpArgs false
section
namespace Go.Av
open Go.Proofs Go.Bv
set_option maxRecDepth 100000
theorem zRs:ACall Tryz.prog GT 37 [.agg (eMp zPp), ei 4, ei 75801] (.tup [ei 2, ei 0]):=qW zHZ gT (n:=10000) (drt:=drC) (by kernel_rfl)
end Go.Av
end
section
namespace Go.Av
open Go.Proofs Go.Bv
set_option maxRecDepth 100000
theorem d39:ACall Tryz.prog GT 39 [.agg (eMp zPp), ei 4, ei 75801, .v (.bool false)] (.tup [.agg (zHF zQE), ei 0]):=qW zHZ gT (n:=10000) (drt:=drC) (by kernel_rfl)
end Go.Av
end
