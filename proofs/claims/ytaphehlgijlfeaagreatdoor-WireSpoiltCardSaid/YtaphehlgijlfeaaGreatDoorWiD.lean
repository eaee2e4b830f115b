
import Derived.Test.YtaphehlgijlfeaaGreatDoorWiC
set_option linter.unusedVariables false
set_option linter.unusedSimpArgs false
section
namespace Go.Av
open Go.Proofs
set_option maxRecDepth 100000
set_option maxHeartbeats 1000000
variable {G : Glob}
abbrev KN (G : Glob) : Prop := ACall Tryz.prog G 23 [] (.v (.bool true))
end Go.Av
end
