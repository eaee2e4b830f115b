import Derived.Test.YtigbomcjnlikjaaGreatDoorWiC
set_option linter.unusedVariables false
set_option linter.unusedSimpArgs false
set_option maxRecDepth 100000
set_option maxHeartbeats 9000000
section
namespace Go.Av
namespace Wr
open Go.Proofs
variable{G:Glob}
theorem fndL_sz(c:Cod)(l:TC):(fndL c l).length<=4000000/\∀x∈fndL c l,x.length<=1000:=by
 unfold fndL
 by_cases h:askE c l=0
 ·rw[zLc h];obtain⟨h1,h2,h3,h4⟩:=askE_0 h;refine⟨?_,fun x hx=>?_⟩
  ·rw[msgs,(yp _).length_eq];exact rQ h1 h3 h4
  ·have:=msg_len ((mem_msgs h1 h2 h4).1 hx).1;have:=(cod_bd h1).1;omega
 ·rw[zLy h];simp
end Wr
end Go.Av
end
