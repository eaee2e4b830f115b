import Derived.Test.YtdjncbjfejdamaaGreatDoorChF
set_option linter.unusedVariables false
set_option linter.unusedSimpArgs false
section
namespace Go.Av
open Go.Proofs
theorem zWZ (a b:Int):zSx a b = zSx b a:=by unfold zSx; omega
theorem zUD (w a b:Int):dist w a b = dist w b a:=by unfold dist; rw [zWZ, zWZ (a % w)]
end Go.Av
end
