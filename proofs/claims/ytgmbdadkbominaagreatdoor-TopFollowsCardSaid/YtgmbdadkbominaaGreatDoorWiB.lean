import Derived.Test.YtgmbdadkbominaaGreatDoorWiA
import Derived.Lib.ConvBytes
import Derived.Test.YtgmbdadkbominaaGreatDoorPlatF
set_option linter.unusedVariables false
set_option linter.unusedSimpArgs false
section
namespace Go.Av
namespace Wr
open Go.Proofs
set_option maxRecDepth 100000
set_option maxHeartbeats 1000000
variable {G:Glob}
abbrev wG:EV:=.pub (.v (.slice none 0 0))
structure G5 where
 a:Int
 b:Int
 c:Int
 d:Int
 e:Int
end Wr
end Go.Av
end
