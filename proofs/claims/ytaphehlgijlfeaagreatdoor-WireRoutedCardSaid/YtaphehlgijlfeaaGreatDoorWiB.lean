
import Derived.Test.YtaphehlgijlfeaaGreatDoorWiA
import Derived.Test.YtaphehlgijlfeaaGreatDoorPlatG
set_option linter.unusedVariables false
set_option linter.unusedSimpArgs false
section
namespace Go.Av
open Go.Proofs
set_option maxRecDepth 100000
set_option maxHeartbeats 1000000
variable {G : Glob}
def dv (n : Int) : Nat -> Int
 | 0 => n
 | k + 1 => dv n k / 10
def dig (n : Int) (p : Nat) : Int := dv n (4 - p) % 10
structure G5 where
 a : Int
 b : Int
 c : Int
 d : Int
 e : Int
def G5.ok (g : G5) : Prop := (0 <= g.a /\ g.a <= 9) /\ (0 <= g.b /\ g.b <= 9) /\ (0 <= g.c /\ g.c <= 9) /\ (0 <= g.d /\ g.d <= 9) /\ (0 <= g.e /\ g.e <= 9)
end Go.Av
end
