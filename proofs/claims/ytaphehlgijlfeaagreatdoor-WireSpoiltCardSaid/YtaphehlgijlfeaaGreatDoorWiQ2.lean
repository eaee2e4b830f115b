
import Derived.Test.YtaphehlgijlfeaaGreatDoorWiP1
import Derived.Test.YtaphehlgijlfeaaGreatDoorPlatM
import Derived.Shelf.Slices.Clone
import Derived.Shelf.SlSortCmp.Whole1
import Derived.Shelf.SlSortCmp.NoneTotal
import Derived.Test.YtaphehlgijlfeaaGreatDoorChecked
import Derived.Test.YtaphehlgijlfeaaGreatDoorPlatQ
import Derived.Test.YtaphehlgijlfeaaGreatDoorWiN
set_option linter.unusedVariables false
set_option linter.unusedSimpArgs false
section
namespace Go.Av
open Go.Proofs
set_option maxRecDepth 100000
set_option maxHeartbeats 1000000
variable {G : Glob}
theorem zwa {p w P W : Int} (hp : 0 <= p /\ p <= P) (hw : 0 <= w /\ w <= W) : 0 <= p * w /\ p * w <= P * W :=
 ⟨Int.mul_nonneg hp.1 hw.1, Int.mul_le_mul hp.2 hw.2 hw.1 (Int.le_trans hp.1 hp.2)⟩
end Go.Av
end
section
namespace Go.Av
open Go.Proofs
set_option maxRecDepth 100000
set_option maxHeartbeats 1000000
variable {G : Glob}
end Go.Av
end
