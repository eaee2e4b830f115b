
import Derived.Test.YtaphehlgijlfeaaGreatDoorWiF
set_option linter.unusedVariables false
set_option linter.unusedSimpArgs false
section
namespace Go.Av
open Go.Proofs
set_option maxRecDepth 100000
set_option maxHeartbeats 1000000
variable {G : Glob}
theorem zD4 (c : Cod) (l : List (List UInt8)) (hl : l.length <= 1000) (hc : c.fields.length <= 1000) {b : Bool} (h : jX c l = b) : ACall Tryz.prog G 67 [.agg (qK c), jD l] (.v (.bool b)) := h ▸ f67 c l hl hc
theorem zD7 (c : Cod) (m : List Int) (l : List (List UInt8)) (hc : c.fields.length <= 1000 /\ c.turns.length <= 1000) (hm1 : m.length <= 1000) (hl1 : l.length <= 1000) (hkc : jA c = true) (hkm : wS c m = true) (hkl : jX c l = true) {b : Bool} (h : zmV c m l = b) :
  ACall Tryz.prog G 66 [.agg (qK c), zO m, jD l] (.tup [.v (.bool b), ei 0]) := h ▸ zyr c m l hc hm1 hl1 hkc hkm hkl
end Go.Av
end
