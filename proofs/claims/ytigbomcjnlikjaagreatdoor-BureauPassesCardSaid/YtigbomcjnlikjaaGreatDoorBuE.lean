import Derived.Test.YtigbomcjnlikjaaGreatDoorBuD
import Derived.Test.YtigbomcjnlikjaaGreatDoorWiC
set_option linter.unusedVariables false
set_option linter.unusedSimpArgs false
set_option maxRecDepth 100000
set_option maxHeartbeats 9000000
section
namespace Go.Av
namespace Bu
open Go.Proofs Tryz
variable{G:Glob}
theorem A4:zS tP 108 false 1=true:=nR
def rCp(l:TC):List (TE):=l.map fun g=>[.pub (Wr.eStrs g)]
variable{l:TC}
theorem ni:rCp l=(l.map fun g=>[Wr.eStrs g]).map (·.map .pub):=by simp[rCp]
theorem wv:(rCp l).length=l.length:=by simp[rCp]
theorem AG:∀r∈rCp l,r.length=1:=fun r hr=>by
 obtain⟨q,_,rfl⟩:=zLj.1 hr;rfl
theorem gf{k:Nat}(h:k<l.length):(rCp l)[k]?=some [.pub (Wr.eStrs l[k])]:=by simp[rCp,h]
theorem QY{k:Nat}:PO.okL k (.row (rCp l)):=by rw[ni];exact od
theorem xy{M:TP}{x:PO}(h:zW M.length M)(hx:PO.okL (M.length+1) x):zW (M++[x]).length (M++[x]):=by
 have h1:zW (M.length+1) M:=dU oM h;rw[show(M++[x]).length=M.length+1 from sI];exact bB h1 ⟨hx,trivial⟩
theorem f219(l:TB)(hl:l.length<=1000):ACall tP G 154 [Wr.eStrs l] (Wr.eStrs l):=by
 refine aC func154 ?_;refine Z8 ?_;refine zm Y (jF Y Y Y Y Y U9 (eB (Hs.mp_len fun _=>rfl)) (by simp;omega) (by unfold maxLen;simp;omega)) ?_;refine Z4 ?_;exact⟨.inr Y,⟨l.map (fun s=>[eS s]),Y,sI,Y⟩⟩
theorem Xe(l:TC)(hl:l.length<=1000)(M:TP):zv tP G 153 [.pub (Wr.eCps l)] M (.ret (.psl M.length l.length) (M++[.row (rCp l)])):=by
 refine mW func153 (fun gh hold hmk=>?_);refine Z8 ?_;refine zm Y (jF Y Y Y Y Y XR (eB (Hs.mp_len fun _=>rfl)) (by simp;omega) (by unfold maxLen;simp;omega)) ?_;refine Z4 ?_
 exact fun hz=>zR [] (by rw[ni];simp) (xy hmk QY) sI (.inr Y) (by simp[EV.lt]) (zLz (EV.psl M.length) sI)
end Bu
end Go.Av
end
