
import Derived.Test.YtaphehlgijlfeaaGreatDoorWiM
import Derived.Test.YtaphehlgijlfeaaGreatDoorLibB
import Derived.Test.YtaphehlgijlfeaaGreatDoorPlatJ
set_option linter.unusedVariables false
set_option linter.unusedSimpArgs false
section
namespace Go.Av
open Go.Proofs
set_option maxRecDepth 100000
set_option maxHeartbeats 1000000
variable {G : Glob}
theorem zmt : Tryz.prog.info? 23 = some Tryz.t23 := by kernel_rfl
def qA (m : List Int) : List (List EV) := m.map fun x => [I x]
theorem qm (m : List Int) : (qA m).length = m.length := by simp [qA]
theorem wY {m : List Int} {a : Nat} (h : a < m.length) : (qA m)[a]? = some [I (m.getD a 0)] := by simp [qA, h]
theorem jh (m : List Int) : ∀ q ∈ qA m, q.length = 1 := by simp [qA]
end Go.Av
end
section
namespace Go.Av
open Go.Proofs
set_option maxRecDepth 100000
set_option maxHeartbeats 1000000
variable {G : Glob}
end Go.Av
end
