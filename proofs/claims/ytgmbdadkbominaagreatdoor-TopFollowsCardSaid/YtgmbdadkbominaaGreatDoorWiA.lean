import Derived.Test.YtgmbdadkbominaaGreatDoorPlatF
import Derived.Test.YtgmbdadkbominaaGreatDoorPlatE
import Derived.Lib.Hide
import Derived.Test.YtgmbdadkbominaaGreatDoorProg
set_option linter.unusedVariables false
set_option linter.unusedSimpArgs false
section
namespace Go.Av
namespace Wr
structure Cod where
 fields:List (Int × Int)
 turns:List Int
 most:Int
end Wr
end Go.Av
end
section
namespace Go.Av
namespace Wr
open Go.Proofs
set_option maxRecDepth 100000
set_option maxHeartbeats 1000000
variable {G:Glob}
end Wr
end Go.Av
end
