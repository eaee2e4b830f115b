import Derived.Test.YtaphehlgijlfeaaGreatDoorWiO
set_option linter.unusedVariables false
set_option linter.unusedSimpArgs false
section
namespace Go.Av
open Go.Proofs
section
variable {c:Cod} {m:List Int} {o a o2 t:Nat} (hc:jA c = true) (hm:wS c m = true) (ho:o <= m.length) (ha:a < 5) (ho2:o2 <= m.length) (ht:t < 5)
include ho ha ho2 ht in
include hm ho ha ho2 ht in
end
section
variable {c:Cod} {m:List Int} {o a o2 t:Nat} (hc:jA c = true) (hm:wS c m = true) (ho:o <= m.length) (ha:a < 5) (ho2:o2 <= m.length) (ht:t < 5)
include hc hm ho ha ho2 ht
end
end Go.Av
end
