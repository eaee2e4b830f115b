import Derived.Test.YtaphehlgijlfeaaGreatDoorPlatH
import Derived.Test.YtaphehlgijlfeaaGreatDoorWiC
import Derived.ChangeKeysEq
import Derived.Laws.StructEq
import Derived.Test.YtaphehlgijlfeaaGreatDoorWiO
import Derived.Test.YtaphehlgijlfeaaGreatDoorWiQ
import Derived.Test.YtaphehlgijlfeaaGreatDoorWiN
set_option linter.unusedVariables false
set_option linter.unusedSimpArgs false
section
namespace Go.Av
open Go.Proofs
set_option maxRecDepth 100000
instance:DecidableEq G5:=fun x y=>decidable_of_iff (x.a = y.a /\ x.b = y.b /\ x.c = y.c /\ x.d = y.d /\ x.e = y.e) (by cases x; cases y; simp)
section
variable {G:Glob} {fr:Nat -> EV} {mem:List PO} {o:Oper}
end
end Go.Av
end
section
namespace Go.Av
open Go.Proofs
set_option maxRecDepth 100000
set_option maxHeartbeats 1000000
variable {G:Glob}
end Go.Av
end
