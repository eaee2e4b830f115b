
import Derived.Test.YtaphehlgijlfeaaGreatDoorWiP6
import Derived.Test.YtaphehlgijlfeaaGreatDoorWiJ
set_option linter.unusedVariables false
set_option linter.unusedSimpArgs false
section
namespace Go.Av
open Go.Proofs
set_option maxRecDepth 100000
set_option maxHeartbeats 1000000
variable {G : Glob}
theorem zxk (a b : List Int) (ha : a.length <= 100000) {r : Bool} (h : decide (a = b) = r) : ACall Tryz.prog G 39 [zO a, zO b] (.v (.bool r)) := h ▸ f39 a b ha
end Go.Av
end
section
namespace Go.Av
open Go.Proofs
set_option maxRecDepth 100000
variable {G : Glob}
end Go.Av
end
