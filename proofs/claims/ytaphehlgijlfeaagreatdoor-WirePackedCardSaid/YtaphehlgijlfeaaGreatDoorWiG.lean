
import Derived.Test.YtaphehlgijlfeaaGreatDoorWiF
set_option linter.unusedVariables false
set_option linter.unusedSimpArgs false
section
namespace Go.Av
open Go.Proofs
set_option maxRecDepth 100000
set_option maxHeartbeats 1000000
variable {G : Glob}
theorem zxv (l : List (List UInt8)) {b : Bool} (h : zjc l = b) : ACall Tryz.prog G 65 [jD l] (.v (.bool b)) := h ▸ f65 l
end Go.Av
end
