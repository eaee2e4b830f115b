/- Figures and groups. -/
import Derived.Test.YtaphehlgijlfeaaGreatDoorWiA
import Derived.Test.YtaphehlgijlfeaaGreatDoorPlatG
set_option linter.unusedVariables false
set_option linter.unusedSimpArgs false
section
namespace Go.Av
open Go.Proofs
set_option maxRecDepth 100000
set_option maxHeartbeats 1000000
set_option linter.unusedSimpArgs false
variable {G : Glob}
abbrev nilE : EV := .pub (.v (.slice none 0 0))
def dv (n : Int) : Nat → Int
  | 0 => n
  | k + 1 => dv n k / 10
def dig (n : Int) (p : Nat) : Int := dv n (4 - p) % 10
/-- The figures of a group. -/
structure G5 where
  a : Int
  b : Int
  c : Int
  d : Int
  e : Int
def figs (n : Int) : G5 := ⟨n / 10 / 10 / 10 / 10 % 10, n / 10 / 10 / 10 % 10, n / 10 / 10 % 10, n / 10 % 10, n % 10⟩
def eFg (g : G5) : List AV := [.v (.int .i64 g.a), .v (.int .i64 g.b), .v (.int .i64 g.c), .v (.int .i64 g.d), .v (.int .i64 g.e)]
/-- All are figures. -/
def G5.ok (g : G5) : Prop := (0 ≤ g.a ∧ g.a ≤ 9) ∧ (0 ≤ g.b ∧ g.b ≤ 9) ∧ (0 ≤ g.c ∧ g.c ≤ 9) ∧ (0 ≤ g.d ∧ g.d ≤ 9) ∧ (0 ≤ g.e ∧ g.e ≤ 9)
def chD (x : Int) : UInt8 := UInt8.ofNat (48 + x).toNat
def G5.chs (g : G5) : List UInt8 := [chD g.a, chD g.b, chD g.c, chD g.d, chD g.e]
def grp (n : Int) : List UInt8 := (figs n).chs
theorem dig_bd {n : Int} (p : Nat) : 0 ≤ dig n p ∧ dig n p ≤ 9 := by unfold dig; omega
end Go.Av
end
