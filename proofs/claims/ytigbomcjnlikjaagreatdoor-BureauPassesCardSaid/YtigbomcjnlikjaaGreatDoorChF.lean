import Derived.Test.YtigbomcjnlikjaaGreatDoorChD
import Derived.Shelf.SlSortCmp.QuietGrown
import Derived.Test.YtigbomcjnlikjaaGreatDoorChE
import Derived.ChangeKeysEq
set_option linter.unusedVariables false
set_option linter.unusedSimpArgs false
set_option maxRecDepth 100000
set_option maxHeartbeats 9000000
section
namespace Go.Av
namespace Ct
open Go.Proofs Tryz
variable{G:Glob}
def edgG(w r p:Int):Bool:=(((p/w==0)||(p/w==r-1))||(p % w==0))||(p % w==w-1)
theorem f190(w r p:Int)(hw:1<=w/\w<=1000)(hr:1<=r/\r<=1000)(hp:0<=p/\p<=100000):ACall tP G 386 [.agg (d5 w r),.v (.int .i64 p)] (.v (.bool (edgG w r p))):=by
 refine aC func386 ?_;refine Z7 ?_;refine zN mixed nR Y ?_;refine Z2 ?_;refine zH Y (zi (av:=[_,_]) Y rL (f120 w r p hw.1 hp)) (Z4 ?_);refine zq Y (fun hg=>zi (av:=[_,_]) Y ⟨(by exact zLc hg),(by exact zLc hg),trivial⟩ (f120 w r p hw.1 hp)) (Z2 ?_);refine zq Y (fun hg=>j4 Y (zLc hg) Y ⟨(by first|omega|(simp at hg;omega)),(by first|omega|(simp at hg;omega))⟩) (Z5 ?_);refine zq Y (fun hg=>zi (av:=[_,_]) Y ⟨(by exact zLc hg),(by exact zLc hg),trivial⟩ (f121 w r p hw.1 hp)) (Z5 ?_);refine zq Y (fun hg=>zi (av:=[_,_]) Y ⟨(by exact zLc hg),(by exact zLc hg),trivial⟩ (f121 w r p hw.1 hp)) (Z2 ?_);refine zq Y (fun hg=>j4 Y (zLc hg) Y ⟨(by first|omega|(simp at hg;omega)),(by first|omega|(simp at hg;omega))⟩) (Z6 ?_);exact aR
end Ct
end Go.Av
end
