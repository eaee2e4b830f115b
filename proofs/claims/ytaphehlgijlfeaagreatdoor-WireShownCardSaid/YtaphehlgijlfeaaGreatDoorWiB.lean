import Derived.Test.YtaphehlgijlfeaaGreatDoorWiA
import Derived.Test.YtaphehlgijlfeaaGreatDoorPlatF
import Derived.Lib.ConvBytes
set_option linter.unusedVariables false
set_option linter.unusedSimpArgs false
section
namespace Go.Av
open Go.Proofs
set_option maxRecDepth 100000
set_option maxHeartbeats 1000000
variable {G:Glob}
abbrev wZ:EV:=.pub (.v (.slice none 0 0))
def dv (n:Int):Nat -> Int
 | 0=>n
 | k + 1=>dv n k / 10
def dig (n:Int) (p:Nat):Int:=dv n (4 - p) % 10
structure G5 where
 a:Int
 b:Int
 c:Int
 d:Int
 e:Int
def qB (n:Int):G5:=⟨n / 10 / 10 / 10 / 10 % 10, n / 10 / 10 / 10 % 10, n / 10 / 10 % 10, n / 10 % 10, n % 10⟩
def G5.ok (g:G5):Prop:=(0 <= g.a /\ g.a <= 9) /\ (0 <= g.b /\ g.b <= 9) /\ (0 <= g.c /\ g.c <= 9) /\ (0 <= g.d /\ g.d <= 9) /\ (0 <= g.e /\ g.e <= 9)
theorem jq {n:Int} (p:Nat):0 <= dig n p /\ dig n p <= 9:=by unfold dig; omega
end Go.Av
end
