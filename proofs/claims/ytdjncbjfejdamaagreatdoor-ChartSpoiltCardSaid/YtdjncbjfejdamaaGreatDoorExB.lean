/- The document's examples, read off the kernel. -/
import Derived.Test.YtdjncbjfejdamaaGreatDoorExA
set_option linter.unusedVariables false
set_option linter.unusedSimpArgs false
section
namespace Go.Av
open Go.Proofs Go.Bv
set_option maxRecDepth 100000
theorem d27a : ACall Tryz.prog GT 27 [.agg (eFld fldM), ei 75930] (.tup [eLs lnA, ei 0]) := acall_data orcC_ok gT (n := 10000) (drt := drC) (by kernel_rfl)
end Go.Av
end
