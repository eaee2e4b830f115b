
import Derived.Test.YtaphehlgijlfeaaGreatDoorWiM
import Derived.Test.YtaphehlgijlfeaaGreatDoorPlatM
import Derived.Shelf.Slices.Clone
import Derived.Shelf.SlSortCmp.Whole1
import Derived.Shelf.SlSortCmp.NoneTotal
import Derived.Test.YtaphehlgijlfeaaGreatDoorChecked
import Derived.Test.YtaphehlgijlfeaaGreatDoorPlatJ
set_option linter.unusedVariables false
set_option linter.unusedSimpArgs false
section
namespace Go.Av
open Go.Proofs
set_option maxRecDepth 100000
set_option maxHeartbeats 1000000
variable {G : Glob}
theorem zmt : Tryz.prog.info? 23 = some Tryz.t23 := by kernel_rfl
theorem zv3 : (Tryz.prog.info? 3).bind (·.zero) = some (.int .i64 0) := by kernel_rfl
end Go.Av
end
section
namespace Go.Av
open Go.Proofs
set_option maxRecDepth 100000
set_option maxHeartbeats 1000000
variable {G : Glob}
end Go.Av
end
