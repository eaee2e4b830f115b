
import Derived.Test.YtaphehlgijlfeaaGreatDoorWiU
import Derived.Test.YtaphehlgijlfeaaGreatDoorWiP
set_option linter.unusedVariables false
set_option linter.unusedSimpArgs false
section
namespace Go.Av
open Go.Proofs
set_option maxRecDepth 100000
set_option maxHeartbeats 1000000
variable {G : Glob}
def dG (c : Cod) (l : List (List (List UInt8))) : Int := if kJ c l = 0 then (zbD (kK (c.fields.length + 1) (xU c l))).1 else 0
def dN (c : Cod) (l : List (List (List UInt8))) : Int := if kJ c l = 0 then (zbD (kK (c.fields.length + 1) (xU c l))).2 else 0
theorem f43 (c : Cod) (l : List (List (List UInt8))) (hc : c.fields.length <= 1000 /\ c.turns.length <= 1000) (hl : l.length <= 1000) (hgl : ∀ g ∈ l, g.length <= 1000) : ACall Tryz.prog G 43 [.agg (qK c), qO l] (.tup [ei (dG c l), ei (dN c l), ei (kJ c l)]) := by
 by_cases h : kJ c l = 0
 ·
  have := zrU (G := G) c l hc hl hgl h (xU c l) rfl
  unfold dG dN
  rw [if_pos h, if_pos h, h]
  exact this
 ·
  have := zpQ (G := G) c l hc hl hgl h
  unfold dG dN
  rw [if_neg h, if_neg h]
  exact this
end Go.Av
end
