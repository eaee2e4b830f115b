
import Derived.Test.YtaphehlgijlfeaaGreatDoorWiO
import Derived.Test.YtaphehlgijlfeaaGreatDoorWiN
import Derived.Test.YtaphehlgijlfeaaGreatDoorPlatH
import Derived.Test.YtaphehlgijlfeaaGreatDoorWiM
import Derived.Test.YtaphehlgijlfeaaGreatDoorWiQ
set_option linter.unusedVariables false
set_option linter.unusedSimpArgs false
section
namespace Go.Av
open Go.Proofs
end Go.Av
end
section
namespace Go.Av
open Go.Proofs
set_option maxRecDepth 100000
set_option maxHeartbeats 1000000
variable {G : Glob}
theorem zdm {L : List (List Int)} {k : Nat} (h : k < L.length) : (L.map fun m => [zO m])[k]? = some [zO (L.getD k [])] := by simp [h]
end Go.Av
end
section
namespace Go.Av
open Go.Proofs
end Go.Av
end
section
namespace Go.Av
open Go.Proofs
set_option maxRecDepth 100000
set_option maxHeartbeats 1000000
variable {G : Glob}
theorem ifp {α : Type} {c : Prop} [Decidable c] {a b : α} (h : c) : (if c then a else b) = a := if_pos h
theorem zk9 {g : List (List UInt8)} {k : Nat} (h : k < g.length) : (g.map fun s => [eS s])[k]? = some [eS (g.getD k [])] := by simp [h]
theorem zjB {w : List UInt8} {k : Nat} (h : k < w.length) : w[k]? = some (w.getD k 0) := by simp [h]
end Go.Av
end
section
namespace Go.Av
open Go.Proofs
def zlt (K : Nat) (g : List (List UInt8)) (p : Nat) : Prop := ∀ j, j <= K -> chF g j p ≠ 63
open Classical in
noncomputable def zci (K : Nat) (g : List (List UInt8)) (p : Nat) : Nat := if zlt K g p then 0 else 1
end Go.Av
end
section
namespace Go.Av
open Go.Proofs
set_option maxRecDepth 100000
set_option maxHeartbeats 1000000
variable {G : Glob}
end Go.Av
end
