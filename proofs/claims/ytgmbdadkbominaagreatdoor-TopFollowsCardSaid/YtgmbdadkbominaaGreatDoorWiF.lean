import Derived.Test.YtgmbdadkbominaaGreatDoorPlatM
import Derived.Shelf.Slices.Clone
import Derived.Shelf.SlSortCmp.Whole1
import Derived.Shelf.SlSortCmp.NoneTotal
import Derived.Test.YtgmbdadkbominaaGreatDoorProg
import Derived.Test.YtgmbdadkbominaaGreatDoorWiB
import Derived.Test.YtgmbdadkbominaaGreatDoorPlatF
import Derived.Laws.Shifts
import Derived.Laws.Entries
import Derived.Laws.Bits128
import Derived.Test.YtgmbdadkbominaaGreatDoorPlatH
import Derived.Test.YtgmbdadkbominaaGreatDoorPlatE
import Derived.Test.YtgmbdadkbominaaGreatDoorPlatJ
set_option linter.unusedVariables false
set_option linter.unusedSimpArgs false
section
namespace Go.Proofs
namespace Wr
open Go.Shelf
set_option maxRecDepth 100000
def Tryz.laysNm215_ren:Go.Shelf.Ren:=⟨fun | 15=>234 | n=>n, fun | 22=>24 | 3=>3 | 4=>4 | n=>n, fun | n=>n⟩
theorem Tryz.laysNm215:Go.Proofs.Lays2.n15 Tryz.prog Tryz.laysNm215_ren:={
 mixed:=by kernel_rfl
 f15:=Tryz.func234.trans (congrArg some (by kernel_rfl))
 t3:=Tryz.underlying3
 a3:=Tryz.isAgg3
 z3:=Tryz.sizeOf3
 v3:=Tryz.zeroValue3
 t4:=Tryz.underlying4
 a4:=Tryz.isAgg4
 z4:=Tryz.sizeOf4
 v4:=Tryz.zeroValue4
 t22:=Tryz.underlying24
 a22:=Tryz.isAgg24
 z22:=Tryz.sizeOf24
 v22:=Tryz.zeroValue24
 i3:=by kernel_rfl }
end Wr
end Go.Proofs
namespace Go.Av
namespace Wr
open Go.Proofs Go.Proofs.Wr
theorem n112 (m:List Int) (hm:m.length <= 1000000):znz Tryz.prog 234 [nums m] (nums m):=
 zoL ⟨_, Tryz.func234, rfl, rfl⟩ (fun b off n c zs w h1 h2 h3=>Any.slices_Clone_int Tryz.laysNm215 b off n c zs w h1 h2 h3) (fun a c w=>Any.slices_Clone_int_zero Tryz.laysNm215 a c w) (fun n c w=>Any.slices_Clone_int_nil Tryz.laysNm215 n c w) m hm
end Wr
end Go.Av
end
section
namespace Go.Av
namespace Wr
open Go.Proofs Go.Proofs.Wr
set_option maxRecDepth 100000
set_option maxHeartbeats 1000000
variable {G:Glob}
end Wr
end Go.Av
end
