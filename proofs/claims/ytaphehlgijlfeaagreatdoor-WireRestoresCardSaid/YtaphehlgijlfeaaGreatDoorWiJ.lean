/- isBook. · Look, Book. -/
import Derived.Test.YtaphehlgijlfeaaGreatDoorWiH
import Derived.Test.YtaphehlgijlfeaaGreatDoorPlatH
set_option linter.unusedVariables false
set_option linter.unusedSimpArgs false
section
namespace Go.Av
open Go.Proofs
set_option maxRecDepth 100000
set_option maxHeartbeats 1000000
set_option linter.unusedSimpArgs false
variable {G : Glob}
abbrev encS : List UInt8 → Value := fun l => Value.string ⟨l.toArray⟩
def wm (l : List Ent) : List (List UInt8 × EV) := l.map fun e => (e.word, B true)
def entB (e : Ent) : Bool := ofB letR e.word && inB e.first 0 99999 && inB e.second 0 99999
/-- A book, but for how many entries it has. -/
def bkE (l : List Ent) : Bool := l.all entB && decide (l.map (·.word)).Nodup
def bookB (l : List Ent) : Bool := bkE l && decide (l.length ≤ 12)
end Go.Av
end

section
namespace Go.Av
open Go.Proofs
set_option maxRecDepth 100000
set_option maxHeartbeats 1000000
set_option linter.unusedSimpArgs false
variable {G : Glob}
theorem ti3 : Tryz.prog.info? 3 = some Tryz.t3 := by kernel_rfl
/-- How many of the first characters cannot be so. -/
def msK (w e : List UInt8) : Nat → Int
  | 0 => 0
  | k + 1 => msK w e k + (if h : k < w.length ∧ k < e.length then (if w[k].toNat ≠ 63 ∧ w[k] ≠ e[k] then 1 else 0) else 0)
def msT (w e : List UInt8) : Int := msK w e w.length
/-- The entries whose word it can be. -/
def lkN (w : List UInt8) (miss : Int) (l : List Ent) : Nat → List Int
  | 0 => []
  | k + 1 => lkN w miss l k ++ (if h : k < l.length then (if msT w l[k].word ≤ miss then [(k : Int)] else []) else [])
def lkA (w : List UInt8) (miss : Int) (l : List Ent) : List Int := lkN w miss l l.length
end Go.Av
end
