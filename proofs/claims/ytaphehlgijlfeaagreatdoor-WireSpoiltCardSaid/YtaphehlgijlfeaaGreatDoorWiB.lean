
import Derived.Test.YtaphehlgijlfeaaGreatDoorWiA
import Derived.Test.YtaphehlgijlfeaaGreatDoorPlatG
set_option linter.unusedVariables false
set_option linter.unusedSimpArgs false
section
namespace Go.Av
open Go.Proofs
set_option maxRecDepth 100000
set_option maxHeartbeats 1000000
variable {G : Glob}
theorem ti5 : Tryz.prog.info? 5 = some Tryz.t5 := by kernel_rfl
def dv (n : Int) : Nat -> Int
 | 0 => n
 | k + 1 => dv n k / 10
def dig (n : Int) (p : Nat) : Int := dv n (4 - p) % 10
structure G5 where
 a : Int
 b : Int
 c : Int
 d : Int
 e : Int
def G5.ok (g : G5) : Prop := (0 <= g.a /\ g.a <= 9) /\ (0 <= g.b /\ g.b <= 9) /\ (0 <= g.c /\ g.c <= 9) /\ (0 <= g.d /\ g.d <= 9) /\ (0 <= g.e /\ g.e <= 9)
def chD (x : Int) : UInt8 := UInt8.ofNat (48 + x).toNat
theorem zhE {x : Int} (h : 0 <= x /\ x <= 9) : ((chD x).toNat : Int) = 48 + x := by
 unfold chD
 rw [UInt8.toNat_ofNat']
 omega
end Go.Av
end
