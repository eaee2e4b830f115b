import Derived.Test.YtdjncbjfejdamaaGreatDoorPlatF
import Derived.Lib.ConvBytes
set_option linter.unusedVariables false
set_option linter.unusedSimpArgs false
section
namespace Go.Av
open Go.RowKit
section
variable {P:Program} {G:Glob} {st:ASt} {o:Oper}
end
section
variable {P:Program} {G:Glob} {fr:Nat -> EV} {mem:List PO} {o:Oper}
end
end Go.Av
end
