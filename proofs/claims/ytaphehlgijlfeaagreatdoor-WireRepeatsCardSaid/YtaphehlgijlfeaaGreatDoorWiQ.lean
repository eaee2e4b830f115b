/- What the check group restores: pure laws. · What the check group restores: which messages are left. -/
import Derived.Test.YtaphehlgijlfeaaGreatDoorWiO
import Derived.Test.YtaphehlgijlfeaaGreatDoorWiP
set_option linter.unusedVariables false
set_option linter.unusedSimpArgs false
section
namespace Go.Av
open Go.Proofs
set_option linter.unusedSimpArgs false
theorem grpsS_n (m : List Int) : (grpsS m).length = m.length + 1 := by simp [grpsS, grps]
section
variable {c : Cod} {m : List Int} {o a o2 t : Nat} (hc : codB c = true) (hm : msgB c m = true) (ho : o ≤ m.length) (ha : a < 5) (ho2 : o2 ≤ m.length) (ht : t < 5)
include ho ha ho2 ht in
include hm ho ha ho2 ht in
end
end Go.Av
end

section
namespace Go.Av
open Go.Proofs
set_option linter.unusedSimpArgs false
section
variable {c : Cod} {m : List Int} {o a o2 t : Nat} (hc : codB c = true) (hm : msgB c m = true) (ho : o ≤ m.length) (ha : a < 5) (ho2 : o2 ≤ m.length) (ht : t < 5)
include hc hm ho ha ho2 ht
end
end Go.Av
end
