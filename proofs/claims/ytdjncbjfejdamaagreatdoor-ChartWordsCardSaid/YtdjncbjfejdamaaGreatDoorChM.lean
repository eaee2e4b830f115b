import Derived.Test.YtdjncbjfejdamaaGreatDoorChP
set_option linter.unusedVariables false
set_option linter.unusedSimpArgs false
section
namespace Go.Av
open Go.Proofs
set_option maxRecDepth 100000
set_option maxHeartbeats 1000000
variable {G:Glob}
def zHz (f:Fld):Bool:=zH2 f && zJM f
end Go.Av
end
section
namespace Go.Av
open Go.Proofs
set_option maxRecDepth 100000
set_option maxHeartbeats 1000000
variable {G:Glob}
theorem zJI {f:Fld} (h:zHz f = true):1 <= f.wide /\ f.wide <= 6 /\ ∀ n ∈ f.vals, 0 <= n /\ n <= 99999:=by
 unfold zHz zH2 zJM at h
 simp only[zLa, Bool.not_eq_true', List.any_eq_false] at h
 obtain ⟨⟨h1, _⟩, h2⟩:=h
 have hw:=zdh.1 h1
 exact ⟨hw.1, hw.2, fun n hn=>zdh.1 (by have:=h2 n hn; simpa using this)⟩
theorem getD_at {l:List Int} {k:Nat} (h:k < l.length):l.getD k 0 = l[k]:=by simp [List.getD, h]
end Go.Av
end
