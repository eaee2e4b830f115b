
import Derived.Test.YtaphehlgijlfeaaGreatDoorWiQ
import Derived.Test.YtaphehlgijlfeaaGreatDoorWiC
import Derived.Test.YtaphehlgijlfeaaGreatDoorWiN
set_option linter.unusedVariables false
set_option linter.unusedSimpArgs false
section
namespace Go.Av
open Go.Proofs
set_option maxRecDepth 100000
set_option maxHeartbeats 1000000
variable {G : Glob}
def zbh (l : List (List UInt8)) : List (List EV) := l.map fun s => [SL s]
theorem jW (l : List (List UInt8)) : (zbh l).length = l.length := by simp [zbh]
theorem xh (l : List (List UInt8)) : ∀ q ∈ zbh l, q.length = 1 := by simp [zbh]
theorem ztx (l : List (List UInt8)) : zbh l = (l.map fun s => [eS s]).map (·.map .pub) := by simp [zbh]
end Go.Av
end
