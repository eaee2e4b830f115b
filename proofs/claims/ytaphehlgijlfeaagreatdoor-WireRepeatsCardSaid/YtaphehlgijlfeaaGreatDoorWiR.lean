/- Groups with holes. -/
import Derived.Test.YtaphehlgijlfeaaGreatDoorWiQ
import Derived.Test.YtaphehlgijlfeaaGreatDoorWiC
import Derived.Test.YtaphehlgijlfeaaGreatDoorWiN
set_option linter.unusedVariables false
set_option linter.unusedSimpArgs false
section
namespace Go.Av
open Go.Proofs
set_option maxRecDepth 100000
set_option maxHeartbeats 1000000
set_option linter.unusedSimpArgs false
variable {G : Glob}

def sRows (l : List (List UInt8)) : List (List EV) := l.map fun s => [SL s]
theorem sRows_len (l : List (List UInt8)) : (sRows l).length = l.length := by simp [sRows]
theorem sRows_get {l : List (List UInt8)} {o : Nat} (h : o < l.length) : (sRows l)[o]? = some [SL (l.getD o [])] := by simp [sRows, h]
theorem sRows_one (l : List (List UInt8)) : ∀ q ∈ sRows l, q.length = 1 := by simp [sRows]
end Go.Av
end
