import Derived.Test.YtaphehlgijlfeaaGreatDoorWiF
import Derived.Test.YtaphehlgijlfeaaGreatDoorPlatH
set_option linter.unusedVariables false
set_option linter.unusedSimpArgs false
section
namespace Go.Av
open Go.Proofs
set_option maxRecDepth 100000
set_option maxHeartbeats 1000000
variable {G:Glob}
theorem ti3:Tryz.prog.info? 3 = some Tryz.t3:=by kernel_rfl
theorem zvE:elemIs Tryz.prog 23 3 1 8:=⟨Tryz.underlying23, Tryz.t3, _, by kernel_rfl, rfl, rfl, rfl, rfl, by decide⟩
end Go.Av
end
