/- WireLooks. -/
import Derived.Test.YtaphehlgijlfeaaGreatDoorWiJ
set_option linter.unusedVariables false
set_option linter.unusedSimpArgs false
section
namespace Go.Av
open Go.Proofs
set_option maxRecDepth 100000
set_option maxHeartbeats 1000000
variable {G:Glob}
theorem zr7 (a:List Int) (ha:a.length <= 100000):ACall Tryz.prog G 39 [zO a, zO a] (.v (.bool true)):=by
 have:=f39 (G:=G) a a ha
 rw [decide_eq_true rfl] at this
 exact this
end Go.Av
end
