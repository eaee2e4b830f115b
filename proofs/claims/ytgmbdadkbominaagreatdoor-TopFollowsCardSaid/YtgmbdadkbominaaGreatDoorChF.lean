import Derived.Test.YtgmbdadkbominaaGreatDoorChE
set_option linter.unusedVariables false
set_option linter.unusedSimpArgs false
section
namespace Go.Av
namespace Ct
open Go.Proofs
set_option maxRecDepth 100000
set_option maxHeartbeats 1000000
variable {G:Glob}
end Ct
end Go.Av
end
section
namespace Go.Av.Pn.Ct
end Go.Av.Pn.Ct
namespace Go.Av.Ct
end Go.Av.Ct
namespace Go.Av.Pn
namespace Ct
open Go.Av.Ct
open Go.Av Go.Proofs Go.RowKit
set_option maxRecDepth 100000
set_option maxHeartbeats 1000000
variable {G:Glob}
section
variable (ed:Nat -> Bool) (nb:Nat -> List Nat) (se:Nat -> Bool)
end
structure Kp (N:Nat) (m m':List Nat):Prop where
 nd:m'.Nodup
 lt:∀ x ∈ m', x < N
 sub:∀ x ∈ m, x ∈ m'
 le:m.length <= m'.length
end Ct
end Go.Av.Pn
end
section
namespace Go.Av.Pn.Ct
end Go.Av.Pn.Ct
namespace Go.Av.Ct
end Go.Av.Ct
namespace Go.Av.Pn
namespace Ct
open Go.Av.Ct
open Go.Av
set_option maxRecDepth 100000
inductive Rc (nb:Nat -> Nat -> Prop) (S:Nat -> Bool) (p:Nat):Nat -> Prop
 | base:Rc nb S p p
 | step {q x:Nat}:Rc nb S p q -> nb q x -> S x = true -> Rc nb S p x
section
variable {ed:Nat -> Bool} {nb:Nat -> List Nat} {se:Nat -> Bool} {N:Nat}
end
end Ct
end Go.Av.Pn
end
section
namespace Go.Av.Pn.Ct
end Go.Av.Pn.Ct
namespace Go.Av.Ct
end Go.Av.Ct
namespace Go.Av.Pn
namespace Ct
open Go.Av.Ct
open Go.Av
set_option maxRecDepth 100000
section
variable {f:Fld} {lvl:Int} {hi:Bool}
end
end Ct
end Go.Av.Pn
end
section
namespace Go.Av.Pn.Ct
end Go.Av.Pn.Ct
namespace Go.Av.Ct
end Go.Av.Ct
namespace Go.Av
namespace Ct
end Ct
end Go.Av
namespace Go.Av.Pn
namespace Ct
open Go.Av.Ct
open Go.Av Go.Proofs Go.RowKit
set_option maxRecDepth 100000
set_option maxHeartbeats 1000000
variable {G:Glob}
end Ct
end Go.Av.Pn
end
section
namespace Go.Av.Pn.Ct
end Go.Av.Pn.Ct
namespace Go.Av.Ct
end Go.Av.Ct
namespace Go.Av.Pn
namespace Ct
open Go.Av.Ct
open Go.Av Go.Proofs
set_option maxRecDepth 100000
set_option maxHeartbeats 1000000
variable {G:Glob}
end Ct
end Go.Av.Pn
end
