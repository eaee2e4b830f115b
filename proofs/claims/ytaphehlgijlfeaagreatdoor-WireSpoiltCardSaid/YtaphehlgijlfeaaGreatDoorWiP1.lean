
import Derived.Test.YtaphehlgijlfeaaGreatDoorWiJ
import Derived.Test.YtaphehlgijlfeaaGreatDoorWiC
import Derived.Test.YtaphehlgijlfeaaGreatDoorWiA
import Derived.Test.YtaphehlgijlfeaaGreatDoorPlatJ
import Derived.Test.YtaphehlgijlfeaaGreatDoorWiL
set_option linter.unusedVariables false
set_option linter.unusedSimpArgs false
section
namespace Go.Av
open Go.Proofs
set_option maxRecDepth 100000
def zAz (w : List UInt8) : Int := w.foldl (fun n b => 10 * n + ((b.toNat : Int) - 48)) 0
end Go.Av
end
section
namespace Go.Av
def lnA (n : Nt) (i : Int) : Lin := n.lines.getD i.toNat ⟨0, 0, 0, 0⟩
def oth (x : Lin) (o : Int) : Int := x.src + x.dst - o
def vs (n : Nt) : Int -> List Int -> List Int
 | a, [] => [a]
 | a, i :: l => a :: vs n (oth (lnA n i) a) l
end Go.Av
end
section
namespace Go.Av
open Go.Proofs
set_option maxRecDepth 100000
set_option maxHeartbeats 1000000
variable {G : Glob}
end Go.Av
end
