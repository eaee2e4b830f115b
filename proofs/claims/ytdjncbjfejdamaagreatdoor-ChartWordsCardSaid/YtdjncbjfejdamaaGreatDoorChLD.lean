import Derived.Test.YtdjncbjfejdamaaGreatDoorChLC
import Derived.Test.YtdjncbjfejdamaaGreatDoorChN
set_option linter.unusedVariables false
set_option linter.unusedSimpArgs false
section
namespace Go.Av
open Go.Proofs
set_option maxRecDepth 100000
set_option maxHeartbeats 1000000
variable {G:Glob}
def wF (f:Fld):Nat:=f.wide.toNat
def rF (f:Fld):Nat:=(rowsOf f).toNat
theorem zNh {f:Fld} (h:zHz f = true):((wF f:Nat):Int) = f.wide /\ 1 <= wF f /\ wF f <= 6 /\ 1 <= rF f /\ rF f <= 5 /\ f.vals.length = wF f * rF f:=by
 unfold zHz at h
 simp only[zLa] at h
 have h:=zKT h.1
 obtain ⟨h1, h2, h3, h4, h5⟩:=h
 have e1:((wF f:Nat):Int) = f.wide:=by unfold wF; omega
 have e2:((rF f:Nat):Int) = rowsOf f:=by unfold rF; omega
 refine ⟨e1, by omega, by omega, by omega, by omega, ?_⟩
 have:((wF f * rF f:Nat):Int) = f.vals.length:=by rw [Int.natCast_mul, e1, e2]; exact h5.symm
 omega
end Go.Av
end
section
namespace Go.Av
open Go.Proofs
set_option maxRecDepth 100000
set_option maxHeartbeats 1000000
variable {G:Glob}
end Go.Av
end
