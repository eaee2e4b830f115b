import Derived.Test.YtgmbdadkbominaaGreatDoorPlatW
import Derived.Test.YtgmbdadkbominaaGreatDoorChC
import Derived.Test.YtgmbdadkbominaaGreatDoorPlatH
import Derived.Test.YtgmbdadkbominaaGreatDoorPlatN
import Derived.Test.YtgmbdadkbominaaGreatDoorPlatU
import Derived.Test.YtgmbdadkbominaaGreatDoorChB
import Derived.ChangeKeysEq
import Derived.Laws.StructEq
import Derived.Test.YtgmbdadkbominaaGreatDoorPlatF
import Derived.Test.YtgmbdadkbominaaGreatDoorChD
set_option linter.unusedVariables false
set_option linter.unusedSimpArgs false
section
namespace Go.Av.Pn.Ct
end Go.Av.Pn.Ct
namespace Go.Av.Ct
end Go.Av.Ct
namespace Go.Av.Pn
namespace Ct
open Go.Av.Ct
open Go.Av Go.Proofs Go.RowKit
set_option maxRecDepth 100000
set_option maxHeartbeats 1000000
variable {G:Glob}
end Ct
end Go.Av.Pn
end
section
namespace Go.Gr
variable {C:Type} [DecidableEq C] (nb:C -> List C)
structure Pth (r:List C):Prop where
 nd:r.Nodup
 st:∀ i (h:i + 1 < r.length), r[i + 1] ∈ nb r[i]
variable {nb}
structure Gph (nb:C -> List C) (all:List C):Prop where
 cl:∀ x ∈ all, ∀ y ∈ nb x, y ∈ all
 sym:∀ x ∈ all, ∀ y ∈ nb x, x ∈ nb y
 irr:∀ x ∈ all, x ∉ nb x
 nd:∀ x ∈ all, (nb x).Nodup
 two:∀ x ∈ all, (nb x).length <= 2
section
variable {all:List C} (G:Gph nb all) {r:List C} (hp:Pth nb r) (ha:∀ y ∈ r, y ∈ all)
include G hp ha
end
end Go.Gr
end
section
namespace Go.Gr
variable {C:Type} [DecidableEq C] (nb:C -> List C)
variable {nb} {all:List C}
structure LOK (nb:C -> List C) (all:List C) (r:List C):Prop where
 pth:Pth nb r
 pos:0 < r.length
 sub:∀ y ∈ r, y ∈ all
 cl:∀ x ∈ r, ∀ y ∈ nb x, y ∈ r
 ends:(nb r[0]).length < 2 ↔ (nb r[r.length - 1]).length < 2
structure SI (nb:C -> List C) (all:List C) (s:List C × List (List C)):Prop where
 flat:s.2.flatten = s.1
 nd:s.1.Nodup
 lines:∀ r ∈ s.2, LOK nb all r
end Go.Gr
end
section
namespace Go.Av
namespace Ct
open Go.Gr
set_option maxRecDepth 100000
section
variable {h:Nat -> Bool} {w r:Nat}
end
end Ct
end Go.Av
end
section
namespace Go.Av
namespace Ct
open Go.Proofs
set_option maxRecDepth 100000
set_option maxHeartbeats 1000000
variable {G:Glob}
section
variable (f:Fld) (lvl:Int) (hi:Bool)
end
end Ct
end Go.Av
end
