/- A string, as data. -/
import Derived.Test.YtdjncbjfejdamaaGreatDoorFrameL
import Derived.Test.YtdjncbjfejdamaaGreatDoorFrame
import Derived.Test.YtdjncbjfejdamaaGreatDoorLibT
set_option linter.unusedVariables false
set_option linter.unusedSimpArgs false
section
namespace Go.Proofs.YtdjncbjfejdamaaGreatDoor
open Go Go.ChangeShapes Go.WideShapes Go.RowKit Go.Av Go.Bv
set_option maxRecDepth 100000
theorem ar_str {x : AV} (h : argAV Tryz.prog 8 9 x) : ∃ s : List UInt8, x = eS s := by
  unfold argAV at h
  rw [Tryz.underlying9] at h
  obtain ⟨s, h, _⟩ := plain_string Tryz.underlying9 h
  refine ⟨s.data.toList, ?_⟩
  simp only [List.cons.injEq, and_true] at h
  rw [h, eS_of]
end Go.Proofs.YtdjncbjfejdamaaGreatDoor
end
