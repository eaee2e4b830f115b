/- The document's examples, read off the kernel. -/
import Derived.Test.YtaphehlgijlfeaaGreatDoorExA
set_option linter.unusedVariables false
set_option linter.unusedSimpArgs false
section
namespace Go.Av
open Go.Proofs Go.Bv
set_option maxRecDepth 100000
theorem d37 : ACall Tryz.prog GT 37 [.agg (eCod codC), eCps [cpB, cpD]] (.tup [eInts [1], ei 0]) := acall_data orcW_ok gT (n := 10000) (drt := drW) (by kernel_rfl)
end Go.Av
end
