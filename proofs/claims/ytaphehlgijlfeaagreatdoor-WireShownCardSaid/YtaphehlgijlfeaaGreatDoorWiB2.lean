import Derived.Test.YtaphehlgijlfeaaGreatDoorWiA2
import Derived.Test.YtaphehlgijlfeaaGreatDoorWiJ
import Derived.Test.YtaphehlgijlfeaaGreatDoorPlatF
import Derived.Lib.ConvBytes
set_option linter.unusedVariables false
set_option linter.unusedSimpArgs false
section
namespace Go.Av
open Go.Proofs
end Go.Av
end
section
namespace Go.Av
open Go.Proofs
set_option maxRecDepth 100000
set_option maxHeartbeats 1000000
variable {G:Glob}
theorem ztu {m:List Int} {k:Nat} (h:k < m.length):(m.map fun n=>[AV.v (.int .i64 n)])[k]? = some [ei (m.getD k 0)]:=by simp [h]; rfl
end Go.Av
end
