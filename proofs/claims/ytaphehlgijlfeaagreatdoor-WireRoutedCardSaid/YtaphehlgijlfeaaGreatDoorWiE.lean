
import Derived.Test.YtaphehlgijlfeaaGreatDoorWiD
import Derived.Test.YtaphehlgijlfeaaGreatDoorPlatF
import Derived.Test.YtaphehlgijlfeaaGreatDoorPlatI
set_option linter.unusedVariables false
set_option linter.unusedSimpArgs false
section
namespace Go.Av
open Go.Proofs
set_option maxRecDepth 100000
set_option maxHeartbeats 1000000
variable {G : Glob}
end Go.Av
end
section
namespace Go.Av
open Go.Proofs
set_option maxRecDepth 100000
set_option maxHeartbeats 1000000
variable {G : Glob}
def hl1 (w : List UInt8) : Int := w.foldl (fun s b => s + if b.toNat = 63 then 1 else 0) 0
end Go.Av
end
section
namespace Go.Av
open Go.Proofs
set_option maxRecDepth 100000
set_option maxHeartbeats 1000000
variable {G : Glob}
def dv2 (n : Int) : Nat -> Int
 | 0 => n
 | k + 1 => dv2 n k / 2
def zol (t : Int) (k : Nat) : Bool := dv2 t k % 2 == 1
def zcw (c : Cod) (f : Int) : Int := c.turns.getD f.toNat 0
def rgt (ch f : Int) : Bool := decide (ch = 63) || (ch - 48 == f)
def wrg (c : Cod) (ch f : Int) : Bool := zol (zcw c f) (ch - 48).toNat
end Go.Av
end
