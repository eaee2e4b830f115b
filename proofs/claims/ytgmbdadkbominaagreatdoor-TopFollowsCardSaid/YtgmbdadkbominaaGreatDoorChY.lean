import Derived.Test.YtgmbdadkbominaaGreatDoorChA
import Derived.Test.YtgmbdadkbominaaGreatDoorWiF
import Derived.Test.YtgmbdadkbominaaGreatDoorPlatF
import Derived.Laws.Shifts
import Derived.Laws.Entries
import Derived.Laws.Bits128
import Derived.Test.YtgmbdadkbominaaGreatDoorPlatH
import Derived.Test.YtgmbdadkbominaaGreatDoorWiB
import Derived.Test.YtgmbdadkbominaaGreatDoorPlatN
import Derived.ChangeKeysEq
import Derived.Laws.StructEq
import Derived.Test.YtgmbdadkbominaaGreatDoorPlatE
import Derived.Test.YtgmbdadkbominaaGreatDoorPlatJ
set_option linter.unusedVariables false
set_option linter.unusedSimpArgs false
section
namespace Go.Av
namespace Tp
open Go.Proofs
set_option maxRecDepth 100000
set_option maxHeartbeats 1000000
variable {G:Glob}
theorem mixed:Tryz.prog.follows .mixedOrders = true:=by kernel_rfl
theorem zpN:fldIs Tryz.prog 69 0 0 = true:=by kernel_rfl
theorem ty3:tyIs Tryz.prog 3 false 1 = true:=by kernel_rfl
structure Tw where
 pt:Int
 rest:List Int
 cps:List (List (List UInt8))
end Tp
end Go.Av
end
