
import Derived.Test.YtaphehlgijlfeaaGreatDoorPlatH
import Derived.Test.YtaphehlgijlfeaaGreatDoorPlatE
set_option linter.unusedVariables false
set_option linter.unusedSimpArgs false
section
namespace Go.Av
open Go.RowKit
theorem zhy {n : NS} {fr : Nat -> EV} {mem : List PO} : Weak ⟨n, fr, mem⟩ ⟨n, fr, mem ++ [.row []]⟩ := by
 intro w0 ok0 a w ⟨h0, h1, h2, ok, bs, h3, h4, h5, h6⟩
 have ht := Turn.push h5.len ⟨none, 0, 0, 0⟩ (.row [])
 exact ⟨h0, h1, h2, ok, bs ++ [⟨none, 0, 0, 0⟩], h3, h4, h5.push (Below.refl _ _) h2.size ⟨by simp, fun _ => rfl, fun g hg => (by simp at hg), fun g hg => (by simp at hg)⟩ (fun g hg => by simp at hg),
  fun t => (h6.1 t).mono (fun _ hb => hb) (fun _ _ => rfl) ht, fun p hp => (h6.2 p hp).mono (fun _ hb => hb) (fun _ _ => rfl) ht⟩
end Go.Av
end
section
namespace Go.Av
open Go.RowKit
section
variable {P : Program} {G : Glob}
end
end Go.Av
end
section
namespace Go.Av
def ltL : List Int -> List Int -> Bool
 | [], [] => false
 | [], _ :: _ => true
 | _ :: _, [] => false
 | a :: as, b :: bs => if a = b then ltL as bs else decide (a < b)
end Go.Av
end
