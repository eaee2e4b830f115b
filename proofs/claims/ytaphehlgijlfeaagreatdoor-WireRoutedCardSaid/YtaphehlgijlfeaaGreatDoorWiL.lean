
import Derived.Test.YtaphehlgijlfeaaGreatDoorWiJ
import Derived.Test.YtaphehlgijlfeaaGreatDoorPlatE
set_option linter.unusedVariables false
set_option linter.unusedSimpArgs false
section
namespace Go.Av
open Go.Proofs
set_option maxRecDepth 100000
set_option maxHeartbeats 1000000
variable {G : Glob}
def chF (g : List (List UInt8)) (at' place : Nat) : Int := (((g.getD at' []).getD place 0).toNat : Int)
def wP (l : List (List (List UInt8))) (at' place : Nat) (f : Int) (i : Nat) : Int := if h : i < l.length then wrN (chF l[i] at' place, f) else 0
def okQ (c : Cod) (l : List (List (List UInt8))) (at' place : Nat) (f : Int) (i : Nat) (n : Int) : Bool := if h : i < l.length then okP c (chF l[i] at' place, f) && decide (n + wrN (chF l[i] at' place, f) <= c.most) else true
end Go.Av
end
section
namespace Go.Av
open Go.Proofs
set_option maxRecDepth 100000
set_option maxHeartbeats 1000000
variable {G : Glob}
end Go.Av
end
