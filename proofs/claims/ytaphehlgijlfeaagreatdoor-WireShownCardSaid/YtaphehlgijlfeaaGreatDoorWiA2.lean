/- WireDoubts. -/
import Derived.Test.YtaphehlgijlfeaaGreatDoorWiW
import Derived.Test.YtaphehlgijlfeaaGreatDoorWiT
set_option linter.unusedVariables false
set_option linter.unusedSimpArgs false
section
namespace Go.Av
open Go.Proofs
set_option maxRecDepth 100000
set_option maxHeartbeats 1000000
variable {G:Glob}
theorem zfe {c:Cod} {l:List (List (List UInt8))} (h:yT c l = 0) (h2:kC c l = []):kJ c l = 5:=by unfold kJ; rw [if_pos h, if_pos h2]
theorem zp7 {c:Cod} {l:List (List (List UInt8))} (h:yT c l = 0) (h2:kC c l ≠ []):kJ c l = 0:=by unfold kJ; rw [if_pos h, if_neg h2]
end Go.Av
end
