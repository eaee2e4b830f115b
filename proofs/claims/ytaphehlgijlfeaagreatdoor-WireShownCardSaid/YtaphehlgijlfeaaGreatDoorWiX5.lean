import Derived.Test.YtaphehlgijlfeaaGreatDoorWiX4
import Derived.Test.YtaphehlgijlfeaaGreatDoorWiQ
import Derived.Test.YtaphehlgijlfeaaGreatDoorWiO
import Derived.Test.YtaphehlgijlfeaaGreatDoorWiB2
import Derived.Test.YtaphehlgijlfeaaGreatDoorWiF
import Derived.Test.YtaphehlgijlfeaaGreatDoorWiC
set_option linter.unusedVariables false
set_option linter.unusedSimpArgs false
section
namespace Go.Av
open Go.Proofs
set_option maxRecDepth 100000
set_option maxHeartbeats 1000000
variable {G:Glob}
theorem zzH (l:List (List (List UInt8))) {b:Bool} (h:zos l = b):ACall Tryz.prog G 22 [qO l] (.v (.bool b)):=h ▸ f22 l
theorem zEb {c:Cod} {l:List (List (List UInt8))} (hc:c.fields.length <= 1000 /\ c.turns.length <= 1000) (hl:l.length <= 1000) (hgl:∀ g ∈ l, g.length <= 1000) {L:List (List Int)} {e:Int} (h1:xU c l = L) (h2:kJ c l = e):ACall Tryz.prog G 24 [.agg (qK c), qO l] (.tup [jc L, ei e]):=h1 ▸ h2 ▸ f24 c l hc hl hgl
theorem zEy {c:Cod} {l:List (List (List UInt8))} (hc:c.fields.length <= 1000 /\ c.turns.length <= 1000) (hl:l.length <= 1000) (hgl:∀ g ∈ l, g.length <= 1000) {L:List Int} {e:Int} (h1:clR c l = L) (h2:clE c l = e):ACall Tryz.prog G 37 [.agg (qK c), qO l] (.tup [zO L, ei e]):=h1 ▸ h2 ▸ f37 c l hc hl hgl
end Go.Av
end
