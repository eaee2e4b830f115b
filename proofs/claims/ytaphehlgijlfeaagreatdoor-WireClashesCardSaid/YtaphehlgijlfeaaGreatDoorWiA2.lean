/- WireDoubts. -/
import Derived.Test.YtaphehlgijlfeaaGreatDoorWiW
import Derived.Test.YtaphehlgijlfeaaGreatDoorWiT
set_option linter.unusedVariables false
set_option linter.unusedSimpArgs false
section
namespace Go.Av
open Go.Proofs
set_option maxRecDepth 100000
set_option maxHeartbeats 1000000
variable {G:Glob}
theorem zdN {s f:Bool} (h:(!s || !f) = false):s = true /\ f = true:=by revert h; cases s <;> cases f <;> simp
end Go.Av
end
