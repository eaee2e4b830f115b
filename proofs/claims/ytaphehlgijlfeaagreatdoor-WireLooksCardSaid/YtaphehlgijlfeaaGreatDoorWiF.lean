/- Can. · The reference's Can; brief. -/
import Derived.Test.YtaphehlgijlfeaaGreatDoorWiE
set_option linter.unusedVariables false
set_option linter.unusedSimpArgs false
section
namespace Go.Av
open Go.Proofs
set_option maxRecDepth 100000
set_option maxHeartbeats 1000000
set_option linter.unusedSimpArgs false
variable {G : Glob}

def figL (g : G5) : List Int := [g.a, g.b, g.c, g.d, g.e]
def figA (g : G5) (k : Nat) : Int := (figL g).getD k 0
/-- The characters of a group that was received, with the figures that were sent. -/
def five (g : G5) (w : List UInt8) : List (Int × Int) := (w.map fun b => (b.toNat : Int)).zip (figL g)
def okP (c : Cod) (x : Int × Int) : Bool := rgt x.1 x.2 || wrg c x.1 x.2
def wrN (x : Int × Int) : Int := if rgt x.1 x.2 then 0 else 1
def cntW (xs : List (Int × Int)) : Int := xs.foldl (fun s x => s + wrN x) 0
def cntP (l : List (List (Int × Int))) : Int := l.foldl (fun s xs => s + cntW xs) 0
def prs (m : List Int) (l : List (List UInt8)) : List (List (Int × Int)) := ((grps m).zip l).map fun p => five p.1 p.2
def canB (c : Cod) (m : List Int) (l : List (List UInt8)) : Bool := ((prs m l).all fun xs => xs.all (okP c)) && decide (cntP (prs m l) ≤ c.most)
end Go.Av
end

section
namespace Go.Av
open Go.Proofs
set_option maxRecDepth 100000
set_option maxHeartbeats 1000000
set_option linter.unusedSimpArgs false
variable {G : Glob}

def brfB (l : List (List UInt8)) : Bool := decide (l.length ≤ 12) && l.all fun w => decide (w.length ≤ 9)
end Go.Av
end
