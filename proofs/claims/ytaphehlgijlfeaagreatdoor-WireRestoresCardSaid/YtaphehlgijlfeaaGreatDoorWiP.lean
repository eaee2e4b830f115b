/- WireMore. -/
import Derived.Test.YtaphehlgijlfeaaGreatDoorWiO
import Derived.Test.YtaphehlgijlfeaaGreatDoorWiD
set_option linter.unusedVariables false
set_option linter.unusedSimpArgs false
section
namespace Go.Av
open Go.Proofs
set_option maxRecDepth 100000
set_option maxHeartbeats 1000000
set_option linter.unusedSimpArgs false
variable {G : Glob}
theorem zv25 : (Tryz.prog.info? 25).bind (·.zero) = some (.agg #[.slice none 0 0, .slice none 0 0, .int .i64 0]) := by kernel_rfl

theorem fndL_sz (c : Cod) (l : List (List (List UInt8))) : (fndL c l).length ≤ 4000000 ∧ ∀ x ∈ fndL c l, x.length ≤ 1000 := by
  unfold fndL
  by_cases h : askE c l = 0
  · rw [if_pos h]
    obtain ⟨h1, h2, h3, h4⟩ := askE_0 h
    refine ⟨?_, fun x hx => ?_⟩
    · rw [msgs, (sortL_perm _).length_eq]; exact srch_few h1 h3 h4
    · have := msg_len ((mem_msgs h1 h2 h4).1 hx).1
      have := (cod_bd h1).1
      omega
  · rw [if_neg h]; simp
/-- The same code with another number of wrong figures. -/
def mst (c : Cod) (n : Int) : Cod := ⟨c.fields, c.turns, n⟩
theorem codB_mst {c : Cod} {n : Int} (h : codB c = true) (h0 : 0 ≤ n) (h1 : n ≤ c.most) : codB (mst c n) = true := by
  have := cod_bd h
  unfold codB at h ⊢
  simp only [Bool.and_eq_true] at h ⊢
  exact ⟨⟨⟨h.1.1.1, inB_iff.2 ⟨h0, by show n ≤ 2; omega⟩⟩, h.1.2⟩, h.2⟩
/-- What the last telegram cost. -/
def lastC (t : Trf) (w : Int) (k : Nat) : Int := if k ≤ 1 then 0 else costI t w ((k : Int) - 1)
end Go.Av
end
