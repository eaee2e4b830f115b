import Derived.Test.YtdjncbjfejdamaaGreatDoorPlatH
import Derived.Test.YtdjncbjfejdamaaGreatDoorPlatE
set_option linter.unusedVariables false
set_option linter.unusedSimpArgs false
section
namespace Go.Av
open Go.RowKit
end Go.Av
end
section
namespace Go.Av
open Go.RowKit
section
variable {P:Program} {G:Glob}
end
end Go.Av
end
section
namespace Go.Av
def ltL:List Int -> List Int -> Bool
 | [], []=>false
 | [], _ :: _=>true
 | _ :: _, []=>false
 | a :: as, b :: bs=>if a = b then ltL as bs else decide (a < b)
end Go.Av
end
