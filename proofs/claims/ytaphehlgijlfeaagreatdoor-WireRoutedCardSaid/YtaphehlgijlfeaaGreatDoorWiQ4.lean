
import Derived.Test.YtaphehlgijlfeaaGreatDoorWiQ3
import Derived.Test.YtaphehlgijlfeaaGreatDoorPlatQ
set_option linter.unusedVariables false
set_option linter.unusedSimpArgs false
section
namespace Go.Av
open Go.Proofs
set_option maxRecDepth 100000
set_option maxHeartbeats 1000000
variable {G : Glob}
end Go.Av
end
section
namespace Go.Av
open Go.Proofs
set_option maxRecDepth 100000
set_option maxHeartbeats 1000000
variable {G : Glob}
theorem zuz {P : Program} {fr : Nat -> EV} {mem : List PO} {o : Oper} {x y : Bool} (h : x = y) (ho : OpY P G fr mem o (B x)) : OpY P G fr mem o (B y) := h ▸ ho
theorem zu8 {nt : Nt} {a z : Int} {r : List Int} (h : zuC nt a z r = true) : ∀ i ∈ r, inL nt i = true := by
 simp only [zuC, Bool.and_eq_true] at h
 have key : ∀ (l : List Int) (a : Int), cok nt a l = true -> ∀ i ∈ l, inL nt i = true := by
  intro l
  induction l with
  | nil => intro a _ i hi; cases hi
  | cons x l ih =>
   intro a hc i hi
   rw [cok, Bool.and_eq_true, Bool.and_eq_true] at hc
   rcases List.mem_cons.1 hi with e | e
   ·
    exact e ▸ hc.1.1
   ·
    exact ih _ hc.2 i e
 exact key r a h.1.1
end Go.Av
end
