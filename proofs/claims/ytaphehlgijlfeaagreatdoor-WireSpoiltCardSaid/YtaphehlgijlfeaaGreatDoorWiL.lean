
import Derived.Test.YtaphehlgijlfeaaGreatDoorWiJ
import Derived.Test.YtaphehlgijlfeaaGreatDoorPlatE
set_option linter.unusedVariables false
set_option linter.unusedSimpArgs false
section
namespace Go.Av
open Go.Proofs
set_option maxRecDepth 100000
set_option maxHeartbeats 1000000
variable {G : Glob}
theorem zfC : tyIs Tryz.prog 34 false 1 = true := by kernel_rfl
def chF (g : List (List UInt8)) (at' place : Nat) : Int := (((g.getD at' []).getD place 0).toNat : Int)
def wP (l : List (List (List UInt8))) (at' place : Nat) (f : Int) (i : Nat) : Int := if h : i < l.length then wrN (chF l[i] at' place, f) else 0
def okQ (c : Cod) (l : List (List (List UInt8))) (at' place : Nat) (f : Int) (i : Nat) (n : Int) : Bool := if h : i < l.length then okP c (chF l[i] at' place, f) && decide (n + wrN (chF l[i] at' place, f) <= c.most) else true
end Go.Av
end
section
namespace Go.Av
open Go.Proofs
set_option maxRecDepth 100000
set_option maxHeartbeats 1000000
variable {G : Glob}
theorem zla {P : Program} {C : Cx P G} {ph : Ph} {st st' : ASt} {Q : Exit -> Ph -> ASt -> Prop} (hw : Weak st st') {c : Code} (h : vY C c ph st' Q) : vY C c ph st Q := fun w0 ok0 a w hc hs => h w0 ok0 a w hc (hw w0 ok0 a w hs)
end Go.Av
end
