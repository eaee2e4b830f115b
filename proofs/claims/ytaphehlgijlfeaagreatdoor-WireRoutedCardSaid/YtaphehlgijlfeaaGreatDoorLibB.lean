
import Derived.Test.YtaphehlgijlfeaaGreatDoorPlatM
import Derived.Shelf.Slices.Clone
import Derived.Shelf.SlSortCmp.Whole1
import Derived.Shelf.SlSortCmp.NoneTotal
import Derived.Test.YtaphehlgijlfeaaGreatDoorChecked
set_option linter.unusedVariables false
set_option linter.unusedSimpArgs false
section
namespace Go.Proofs
open Go.Shelf
set_option maxRecDepth 100000
def Tryz.laysNm215_ren : Go.Shelf.Ren := ⟨fun | 15 => 112 | n => n, fun | 22 => 23 | 3 => 3 | 4 => 4 | n => n, fun | n => n⟩
theorem Tryz.laysNm215 : Go.Proofs.Lays2.n15 Tryz.prog Tryz.laysNm215_ren := {
 mixed := by kernel_rfl
 f15 := Tryz.func112.trans (congrArg some (by kernel_rfl))
 t3 := Tryz.underlying3
 a3 := Tryz.isAgg3
 z3 := Tryz.sizeOf3
 v3 := Tryz.zeroValue3
 t4 := Tryz.underlying4
 a4 := Tryz.isAgg4
 z4 := Tryz.sizeOf4
 v4 := Tryz.zeroValue4
 t22 := Tryz.underlying23
 a22 := Tryz.isAgg23
 z22 := Tryz.sizeOf23
 v22 := Tryz.zeroValue23
 i3 := by kernel_rfl }
end Go.Proofs
namespace Go.Av
open Go.Proofs
theorem n112 (m : List Int) (hm : m.length <= 1000000) : NCall Tryz.prog 112 [nums m] (nums m) :=
 zm5 ⟨_, Tryz.func112, rfl, rfl⟩ (fun b off n c zs w h1 h2 h3 => Any.slices_Clone_int Tryz.laysNm215 b off n c zs w h1 h2 h3) (fun a c w => Any.slices_Clone_int_zero Tryz.laysNm215 a c w) (fun n c w => Any.slices_Clone_int_nil Tryz.laysNm215 n c w) m hm
end Go.Av
end
