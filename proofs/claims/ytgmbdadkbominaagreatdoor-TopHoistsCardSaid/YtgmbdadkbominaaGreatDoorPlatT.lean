import Derived.Test.YtgmbdadkbominaaGreatDoorPlatJ
import Derived.Test.YtgmbdadkbominaaGreatDoorPlatQ
import Derived.Test.YtgmbdadkbominaaGreatDoorPlatH
set_option linter.unusedVariables false
set_option linter.unusedSimpArgs false
section
namespace Go.Av
open Go.RowKit
structure Sx (P:Program) (G:Glob) where
 l:Nat
 qs:List (List AV)
 B:Nat
 V:Nat -> Prop
 On:World -> Prop
 Off:World -> Prop
 okS:Nat -> Prop
 glob:∀ W, On W -> G.holds W
 globF:∀ W, Off W -> G.holds W
 onAb:∀ W W', On W -> Below B W W' -> On W'
 offAb:∀ W W', Off W -> Below W.heap.size W W' -> Off W'
 onB:∀ W, On W -> B <= W.heap.size
 up:∀ x, B <= x -> okS x
 round:∀ (k:Nat) (W:World) (ok:Nat -> Prop) (us:List Value) (q:List AV), qs[k]? = some q -> V k -> On W -> (∀ x, ok x -> x < W.heap.size /\ okS x) -> FitsL ok W q us ->
  ∃ fn tmps assign body, (Instr.yield l us.toArray).run P W = .ok (.round l fn tmps assign body) W /\
   RoundIn (FW none) 0 P l fn tmps assign body W (fun e W'=>(e = .returned (.bool true) /\ V (k + 1) /\ Below W.heap.size W W') ∨ (e = .returned (.bool false) /\ Off W'))
section
variable {P:Program} {G:Glob}
end
end Go.Av
end
section
namespace Go.Av
open Go.RowKit
section
variable {P:Program} {G:Glob}
end
section
variable {F:Fence} {n:Nat} {P:Program} {md:Region.Mode} {ops:Array Oper}
end
structure RS (ok:Nat -> Prop) (n:Nat) (fr:Nat -> EV) (a:Act) (w:World):Prop where
 size:a.tmps.size = n
 dfs:a.defers = []
 lt:∀ b, ok b -> b < w.heap.size
 fits:∀ t, FitsE ok w [] [] (fr t) (a.tmps.getD t undef)
section
variable {P:Program} {G:Glob} (C:Sx P G) (n:Nat) (R:(Nat -> Prop) -> World -> Prop)
structure RGood:Prop where
 on:∀ ok w, R ok w -> C.On w
 okS:∀ ok w, R ok w -> ∀ x, ok x -> C.okS x
 grow:∀ ok ok' w w', R ok w -> Below w.heap.size w w' -> (∀ x, ok' x -> ok x ∨ w.heap.size <= x) -> R ok' w'
end
section
variable {P:Program} {G:Glob} {C:Sx P G} {n:Nat} {R:(Nat -> Prop) -> World -> Prop} {ph:Ph} {fr:Nat -> EV} {Q:Exit -> Ph -> (Nat -> EV) -> Prop} {ops:Array Oper} {l:List Oper} {o:Oper}
end
end Go.Av
end
