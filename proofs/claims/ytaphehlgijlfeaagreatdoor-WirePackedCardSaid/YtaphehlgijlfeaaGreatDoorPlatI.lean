
import Derived.Test.YtaphehlgijlfeaaGreatDoorPlatF
import Derived.Laws.Shifts
import Derived.Laws.Entries
import Derived.Laws.Bits128
set_option linter.unusedVariables false
set_option linter.unusedSimpArgs false
section
namespace Go.Av
open Go.RowKit
section
variable {P : Program} {G : Glob} {fr : Nat -> EV} {mem : List PO} {o : Oper}
end
end Go.Av
end
