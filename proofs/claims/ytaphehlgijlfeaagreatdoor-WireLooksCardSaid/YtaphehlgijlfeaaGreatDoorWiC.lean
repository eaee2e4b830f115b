/- Messages as groups. · The reference's groups; Send. -/
import Derived.Test.YtaphehlgijlfeaaGreatDoorWiB
set_option linter.unusedVariables false
set_option linter.unusedSimpArgs false
section
namespace Go.Av
open Go.Proofs
set_option maxRecDepth 100000
set_option maxHeartbeats 1000000
set_option linter.unusedSimpArgs false
variable {G : Glob}
/-- The check group. -/
def chk (m : List Int) : G5 := m.foldl (fun s n => ⟨(s.a + (figs n).a) % 10, (s.b + (figs n).b) % 10, (s.c + (figs n).c) % 10, (s.d + (figs n).d) % 10, (s.e + (figs n).e) % 10⟩) ⟨0, 0, 0, 0, 0⟩
def grps (m : List Int) : List G5 := m.map figs ++ [chk m]
def iFg (g : G5) : List EV := [I g.a, I g.b, I g.c, I g.d, I g.e]
end Go.Av
end

section
namespace Go.Av
open Go.Proofs
set_option maxRecDepth 100000
set_option maxHeartbeats 1000000
set_option linter.unusedSimpArgs false
variable {G : Glob}
theorem ti9 : Tryz.prog.info? 9 = some Tryz.t9 := by kernel_rfl
theorem ty9 : tyIs Tryz.prog 9 false 1 = true := by kernel_rfl

def sumD (m : List Int) (j : Nat) : Int := m.foldl (fun s n => s + dig n j) 0
def ckN (m : List Int) : Nat → Int
  | 0 => 0
  | j + 1 => 10 * ckN m j + sumD m j % 10
/-- The groups of a message, as strings. -/
def grpsS (m : List Int) : List (List UInt8) := (grps m).map G5.chs
end Go.Av
end
