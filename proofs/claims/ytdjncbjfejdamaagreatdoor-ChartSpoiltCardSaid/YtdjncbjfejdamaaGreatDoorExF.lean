/- The document's examples, read off the kernel. -/
import Derived.Test.YtdjncbjfejdamaaGreatDoorExA
set_option linter.unusedVariables false
set_option linter.unusedSimpArgs false
section
namespace Go.Av
open Go.Proofs Go.Bv
set_option maxRecDepth 100000
theorem d39 : ACall Tryz.prog GT 39 [.agg (eMp mapN), ei 4, ei 75801, .v (.bool false)] (.tup [.agg (eFld fldS), ei 0]) := acall_data orcC_ok gT (n := 10000) (drt := drC) (by kernel_rfl)
end Go.Av
end
