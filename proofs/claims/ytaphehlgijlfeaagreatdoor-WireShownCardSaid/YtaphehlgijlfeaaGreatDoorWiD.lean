/- WireSends. -/
import Derived.Test.YtaphehlgijlfeaaGreatDoorWiC
set_option linter.unusedVariables false
set_option linter.unusedSimpArgs false
section
namespace Go.Av
open Go.Proofs
set_option maxRecDepth 100000
set_option maxHeartbeats 1000000
variable {G:Glob}
abbrev KN (G:Glob):Prop:=ACall Tryz.prog G 23 [] (.v (.bool true))
def y7 (c:Cod):Bool:=decide (c.fields.length <= 6) && decide (c.turns.length <= 14)
theorem zoc (c:Cod) {b:Bool} (h:y7 c = b):ACall Tryz.prog G 21 [.agg (qK c)] (.v (.bool b)):=h ▸ f21 c
theorem zjV {c:Cod} {m:List Int} (h1:jA c = true) (h2:wS c m = true):∀ n ∈ m, 0 <= n /\ n <= 99999:=fun n hn=>by
 simp only[jA, zLa, Bool.not_eq_true'] at h1
 simp only[wS, eqF, zLa, decide_eq_true_eq, List.all_eq_true] at h2
 obtain ⟨k, hk, rfl⟩:=List.getElem_of_mem hn
 have hkf:k < c.fields.length:=by omega
 have h3:=h2.2 (m[k], c.fields[k]) (by rw [List.mem_iff_getElem]; exact ⟨k, by simp; omega, by simp⟩)
 have h4:=h1.1.2
 rw [List.any_eq_false] at h4
 have h5:=h4 c.fields[k] (List.getElem_mem _)
 simp only[zg4, Bool.or_eq_true, decide_eq_true_eq, not_or, Int.not_lt] at h5
 simp only[zdh] at h3
 omega
end Go.Av
end
