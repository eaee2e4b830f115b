
import Derived.Test.YtaphehlgijlfeaaGreatDoorWiB
set_option linter.unusedVariables false
set_option linter.unusedSimpArgs false
section
namespace Go.Av
open Go.Proofs
set_option maxRecDepth 100000
set_option maxHeartbeats 1000000
variable {G : Glob}
end Go.Av
end
section
namespace Go.Av
open Go.Proofs
set_option maxRecDepth 100000
set_option maxHeartbeats 1000000
variable {G : Glob}
theorem ti9 : Tryz.prog.info? 9 = some Tryz.t9 := by kernel_rfl
def yU (m : List Int) (j : Nat) : Int := m.foldl (fun s n => s + dig n j) 0
end Go.Av
end
