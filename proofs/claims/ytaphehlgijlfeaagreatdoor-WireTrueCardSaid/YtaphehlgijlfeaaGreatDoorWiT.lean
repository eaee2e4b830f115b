
import Derived.Test.YtaphehlgijlfeaaGreatDoorPlatH
import Derived.Test.YtaphehlgijlfeaaGreatDoorWiC
import Derived.ChangeKeysEq
import Derived.Laws.StructEq
import Derived.Test.YtaphehlgijlfeaaGreatDoorWiO
import Derived.Test.YtaphehlgijlfeaaGreatDoorWiQ
import Derived.Test.YtaphehlgijlfeaaGreatDoorWiR
set_option linter.unusedVariables false
set_option linter.unusedSimpArgs false
section
namespace Go.Av
open Go.Proofs
set_option maxRecDepth 100000
instance : DecidableEq G5 := fun x y => decidable_of_iff (x.a = y.a /\ x.b = y.b /\ x.c = y.c /\ x.d = y.d /\ x.e = y.e) (by cases x; cases y; simp)
section
variable {G : Glob} {fr : Nat -> EV} {mem : List PO} {o : Oper}
end
end Go.Av
end
section
namespace Go.Av
open Go.Proofs
set_option maxRecDepth 100000
set_option maxHeartbeats 1000000
variable {G : Glob}
theorem zoA {c : Cod} {l : List (List (List UInt8))} (h : kJ c l = 0) : yT c l = 0 /\ xU c l = kC c l /\ kC c l ≠ [] := by
 unfold kJ at h
 by_cases h0 : yT c l = 0
 ·
  rw [if_pos h0] at h
  refine ⟨h0, by unfold xU; rw [if_pos h0], fun e => ?_⟩
  rw [if_pos e] at h; cases h
 ·
  rw [if_neg h0] at h; exact absurd h h0
theorem zk5 {c : Cod} {l : List (List (List UInt8))} (h : kJ c l = 0) : jA c = true /\ ∀ m ∈ xU c l, wS c m = true /\ m.length = c.fields.length /\ ∀ x ∈ m, 0 <= x /\ x <= 1000000000000 := by
 obtain ⟨h0, h1, _⟩ := zoA h
 obtain ⟨q1, q2, q3, q4⟩ := zh6 h0
 refine ⟨q1, fun m hm => ?_⟩
 rw [h1] at hm
 have := (zc0 q1 q2 q4).1 hm
 exact ⟨this.1, wU this.1, zlx q1 this.1⟩
end Go.Av
end
