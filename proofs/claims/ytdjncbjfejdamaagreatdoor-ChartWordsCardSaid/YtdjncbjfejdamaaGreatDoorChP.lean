import Derived.Test.YtdjncbjfejdamaaGreatDoorChE
set_option linter.unusedVariables false
set_option linter.unusedSimpArgs false
section
namespace Go.Av
open Go.Proofs
set_option maxRecDepth 100000
set_option maxHeartbeats 1000000
variable {G:Glob}
end Go.Av
end
section
namespace Go.Av
open Go.Proofs
set_option maxRecDepth 100000
set_option maxHeartbeats 1000000
variable {G:Glob}
def zH2 (f:Fld):Bool:=inB f.wide 1 6 && (((f.vals.length:Int) % f.wide == 0) && inB ((f.vals.length:Int) / f.wide) 1 5)
def zJM (f:Fld):Bool:=!(f.vals.any fun n=>!inB n 0 99999)
def rowsOf (f:Fld):Int:=(f.vals.length:Int) / f.wide
end Go.Av
end
