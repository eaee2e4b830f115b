/- WireMore. -/
import Derived.Test.YtaphehlgijlfeaaGreatDoorWiO
import Derived.Test.YtaphehlgijlfeaaGreatDoorWiD
set_option linter.unusedVariables false
set_option linter.unusedSimpArgs false
section
namespace Go.Av
open Go.Proofs
set_option maxRecDepth 100000
set_option maxHeartbeats 1000000
set_option linter.unusedSimpArgs false
variable {G : Glob}
theorem gS {a b : Bool} (h : (!(!a || !b)) = true) : a = true := by revert h; cases a <;> cases b <;> simp
theorem gF {a b : Bool} (h : (!(!a || !b)) = true) : b = true := by revert h; cases a <;> cases b <;> simp
theorem fndL_sz (c : Cod) (l : List (List (List UInt8))) : (fndL c l).length ≤ 4000000 ∧ ∀ x ∈ fndL c l, x.length ≤ 1000 := by
  unfold fndL
  by_cases h : askE c l = 0
  · rw [if_pos h]
    obtain ⟨h1, h2, h3, h4⟩ := askE_0 h
    refine ⟨?_, fun x hx => ?_⟩
    · rw [msgs, (sortL_perm _).length_eq]; exact srch_few h1 h3 h4
    · have := msg_len ((mem_msgs h1 h2 h4).1 hx).1
      have := (cod_bd h1).1
      omega
  · rw [if_neg h]; simp
theorem fndE_05 {c : Cod} {l : List (List (List UInt8))} (h : askE c l = 0) : (fndE c l != 0 && fndE c l != 5) = false := by
  unfold fndE; rw [if_pos h]; split <;> rfl
end Go.Av
end
