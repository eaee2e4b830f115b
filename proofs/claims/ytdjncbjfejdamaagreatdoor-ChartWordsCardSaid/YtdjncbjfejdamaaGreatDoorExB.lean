import Derived.Test.YtdjncbjfejdamaaGreatDoorExA
set_option linter.unusedVariables false
set_option linter.unusedSimpArgs false
section
namespace Go.Av
open Go.Proofs Go.Bv
set_option maxRecDepth 100000
theorem zRE:ACall Tryz.prog GT 27 [.agg (zHF zNP), ei 75930] (.tup [eLs lnA, ei 0]):=qW zHZ gT (n:=10000) (drt:=drC) (by kernel_rfl)
end Go.Av
end
section
namespace Go.Av
open Go.Proofs Go.Bv
set_option maxRecDepth 100000
theorem zRO:ACall Tryz.prog GT 27 [.agg (zHF zNP), ei 75900] (.tup [eLs lnB, ei 0]):=qW zHZ gT (n:=10000) (drt:=drC) (by kernel_rfl)
end Go.Av
end
section
namespace Go.Av
open Go.Proofs Go.Bv
set_option maxRecDepth 100000
theorem zRI:ACall Tryz.prog GT 37 [.agg (eMp zPp), ei 4, ei 75850] (.tup [ei 3, ei 0]):=qW zHZ gT (n:=10000) (drt:=drC) (by kernel_rfl)
end Go.Av
end
