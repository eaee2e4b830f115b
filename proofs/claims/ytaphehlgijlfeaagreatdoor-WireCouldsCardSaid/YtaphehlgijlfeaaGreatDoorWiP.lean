
import Derived.Test.YtaphehlgijlfeaaGreatDoorWiO
import Derived.Test.YtaphehlgijlfeaaGreatDoorWiD
set_option linter.unusedVariables false
set_option linter.unusedSimpArgs false
section
namespace Go.Av
open Go.Proofs
set_option maxRecDepth 100000
set_option maxHeartbeats 1000000
variable {G : Glob}
theorem zce (c : Cod) (l : List (List (List UInt8))) : (xU c l).length <= 4000000 /\ ∀ x ∈ xU c l, x.length <= 1000 := by
 unfold xU
 by_cases h : yT c l = 0
 ·
  rw [if_pos h]
  obtain ⟨h1, h2, h3, h4⟩ := zh6 h
  refine ⟨?_, fun x hx => ?_⟩
  ·
   rw [kC, (wF _).length_eq]; exact zfj h1 h3 h4
  ·
   have := wU ((zc0 h1 h2 h4).1 hx).1
   have := (wI h1).1
   omega
 ·
  rw [if_neg h]; simp
end Go.Av
end
