
import Derived.Test.YtaphehlgijlfeaaGreatDoorWiL
import Derived.Test.YtaphehlgijlfeaaGreatDoorPlatJ
set_option linter.unusedVariables false
set_option linter.unusedSimpArgs false
section
namespace Go.Av
open Go.Proofs
def dg (m : List Int) (q j : Nat) : Int := if h : j < m.length then dig m[j] q else yU m q % 10
def pv (x : Int) (p : Nat) : Int := dv x (5 - p)
def okS (c : Cod) (l : List (List (List UInt8))) (m : List Int) (i : Nat) : List (Nat × Nat) -> Int -> Bool
 | [], _ => true
 | s :: r, x => okQ c l s.2 s.1 (dg m s.1 s.2) i x && okS c l m i r (x + wP l s.2 s.1 (dg m s.1 s.2) i)
end Go.Av
end
section
namespace Go.Av
open Go.Proofs
def zjh (ds : List Int) : Int := ds.foldr (fun x s => x + s) 0
def vF (ds : List Int) (j : Nat) : Int := if h : j < ds.length then ds[j] else zjh ds % 10
def ql (k n : Nat) : List Int := (List.range k).map fun i => (n : Int) / (10 ^ (k - 1 - i) : Nat) % 10
def zbu (g : List (List UInt8)) (place : Nat) (ds : List Int) : Int := jB (ds.length + 1) (fun j => wrN (chF g j place, vF ds j))
def zfW (c : Cod) (g : List (List UInt8)) (place : Nat) (ds : List Int) : Bool := (List.range (ds.length + 1)).all fun j => okP c (chF g j place, vF ds j)
def zdv (c : Cod) (l : List (List (List UInt8))) (place : Nat) (ds : List Int) : Bool := l.all fun g => zfW c g place ds && decide (zbu g place ds <= c.most)
def vX (l : List (List (List UInt8))) (place : Nat) (ds : List Int) : List Int := l.map fun g => zbu g place ds
def jl (c : Cod) (l : List (List (List UInt8))) (place : Nat) : List (List Int × List Int) :=
 (((List.range (10 ^ c.fields.length)).filter fun n => zdv c l place (ql c.fields.length n)).map fun n => (ql c.fields.length n, vX l place (ql c.fields.length n)))
def jnR (a b : List Int) : List Int := List.zipWith (fun x y => 10 * x + y) a b
def jnW (a b : List Int) : List Int := List.zipWith (fun x y => x + y) a b
def jn (c : Cod) (a b : List Int × List Int) : Option (List Int × List Int) := if (jnW a.2 b.2).all (fun x => decide (x <= c.most)) then some (jnR a.1 b.1, jnW a.2 b.2) else none
def fin (c : Cod) (l : List (List (List UInt8))) : Nat -> List Int × List Int -> List (List Int)
 | 0, a => if wS c a.1 then [a.1] else []
 | n + 1, a => (jl c l (4 - n)).flatMap fun b => match jn c a b with
  | some x => fin c l n x
  | none => []
end Go.Av
end
section
namespace Go.Av
open Go.Proofs
end Go.Av
end
