import Derived.Test.YtgmbdadkbominaaGreatDoorPlatH
import Derived.Test.YtgmbdadkbominaaGreatDoorPlatE
import Derived.RangeFuncIn
import Derived.RangeFuncLeaves
import Derived.Test.YtgmbdadkbominaaGreatDoorPlatF
set_option linter.unusedVariables false
set_option linter.unusedSimpArgs false
section
namespace Go.Av
open Go.RowKit
section
variable {F:Fence} {n:Nat} {P:Program} {Q:Exit -> Act -> World -> Prop} {a:Act} {w:World} {p:FuncId -> Prop}
end
end Go.Av
end
section
namespace Go.Av.Pn
open Go.Av Go.RowKit
inductive Ph where
 | on (k:Nat)
 | off (k:Nat)
 | pan (ch:List PanicEntry)
structure Cx (P:Program) (G:Glob) where
 l:Nat
 qs:List (List AV)
 J:Ph -> (Nat -> Prop) -> World -> Prop
 okS:Nat -> Prop
 lt:∀ p M W, J p M W -> ∀ x, M x -> x < W.heap.size
 up:∀ p M W x, J p M W -> W.heap.size <= x -> okS x
 abides:∀ p M W W', J p M W -> Below W.heap.size W W' -> J p M W'
 round:∀ (k:Nat) (M:Nat -> Prop) (W:World) (ok:Nat -> Prop) (us:List Value) (q:List AV) (gh:List (AV × Value)), qs[k]? = some q -> J (.on k) M W -> G.holds W ->
  (∀ x, ok x -> x < W.heap.size /\ ¬ M x /\ okS x) -> FitsL ok W q us -> (∀ p ∈ gh, Fits ok W p.1 p.2) ->
  ∃ fn tmps assign body, (Instr.yield l us.toArray).run P W = .ok (.round l fn tmps assign body) W /\
   RoundIn (FW none) 0 P l fn tmps assign body W (fun e W'=>(∃ (b:Bool) (M' ok':Nat -> Prop), e = .returned (.bool b) /\ J (if b then .on (k + 1) else .off k) M' W' /\ G.holds W' /\
    (∀ x, ok' x -> x < W'.heap.size /\ ¬ M' x /\ okS x) /\ ∀ p ∈ gh, Fits ok' W' p.1 p.2) ∨ ∃ (ch:List PanicEntry) (M':Nat -> Prop), e = .panicked ch /\ J (.pan ch) M' W' /\ G.holds W')
section
variable {P:Program} {G:Glob} (C:Cx P G)
end
section
variable {P:Program} {G:Glob} {C:Cx P G} {ph:Ph} {st st':ASt} {Q:Exit -> Ph -> ASt -> Prop} {ops:Array Oper} {l:List Oper} {o:Oper}
end
end Go.Av.Pn
end
section
namespace Go.Av.Pn
open Go.Av Go.RowKit
section
variable {P:Program} {G:Glob} {p:FuncId -> Prop} {st st':ASt} {Q:Exit -> ASt -> Prop} {x y c:Code}
end
section
variable {P:Program} {G:Glob}
end
end Go.Av.Pn
end
section
namespace Go.Av.Pn
open Go.Av Go.RowKit
section
variable {P:Program} {G:Glob}
end
section
variable {P:Program} {G:Glob}
end
end Go.Av.Pn
end
