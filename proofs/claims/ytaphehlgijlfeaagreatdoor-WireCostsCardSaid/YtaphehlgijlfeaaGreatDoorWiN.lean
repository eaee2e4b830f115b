
import Derived.Test.YtaphehlgijlfeaaGreatDoorWiM
import Derived.Test.YtaphehlgijlfeaaGreatDoorLibB
import Derived.Test.YtaphehlgijlfeaaGreatDoorPlatJ
set_option linter.unusedVariables false
set_option linter.unusedSimpArgs false
section
namespace Go.Av
open Go.Proofs
set_option maxRecDepth 100000
set_option maxHeartbeats 1000000
variable {G : Glob}
theorem zo9 : elemIs Tryz.prog 30 23 1 24 := ⟨Tryz.underlying30, Tryz.t23, _, by kernel_rfl, rfl, rfl, rfl, rfl, by decide⟩
theorem zmt : Tryz.prog.info? 23 = some Tryz.t23 := by kernel_rfl
def yQ (ls : List (List Int)) : List (List EV) := ls.map fun m => [EV.pub (nums m)]
theorem zdu (ls : List (List Int)) : ∀ q ∈ yQ ls, q.length = 1 := by simp [yQ]
end Go.Av
end
section
namespace Go.Av
open Go.Proofs
set_option maxRecDepth 100000
set_option maxHeartbeats 1000000
variable {G : Glob}
end Go.Av
end
