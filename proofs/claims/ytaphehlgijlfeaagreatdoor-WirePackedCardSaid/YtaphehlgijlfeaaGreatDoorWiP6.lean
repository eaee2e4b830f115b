
import Derived.Test.YtaphehlgijlfeaaGreatDoorWiP5
set_option linter.unusedVariables false
set_option linter.unusedSimpArgs false
section
namespace Go.Av
open Go.Proofs
set_option maxRecDepth 100000
set_option maxHeartbeats 1000000
variable {G : Glob}
end Go.Av
end
