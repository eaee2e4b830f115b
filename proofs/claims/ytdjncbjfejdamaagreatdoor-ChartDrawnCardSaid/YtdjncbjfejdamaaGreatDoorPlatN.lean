import Derived.Test.YtdjncbjfejdamaaGreatDoorPlatH
set_option linter.unusedVariables false
set_option linter.unusedSimpArgs false
section
namespace Go.Av
open Go.RowKit
section
variable {P:Program} {G:Glob} {α:Type} {enc:α -> Value}
variable {o:Oper}
variable [DecidableEq α]
variable {o:Oper}
end
end Go.Av
end
section
namespace Go.Av
open Go.RowKit
section
variable {P:Program} {G:Glob} {α:Type} {enc:α -> Value} [DecidableEq α] {ops:Array Oper}
variable {fr:Nat -> EV} {o:Oper}
end
end Go.Av
end
section
namespace Go.Av
open Go.RowKit
section
variable {P:Program} {G:Glob} {st:ASt} {o:Oper}
end
end Go.Av
end
