import Derived.Test.YtdjncbjfejdamaaGreatDoorPlatF
import Derived.Shelf.Strings.SplitShaped
import Derived.Test.YtdjncbjfejdamaaGreatDoorChecked
set_option linter.unusedVariables false
set_option linter.unusedSimpArgs false
section
namespace Go.Proofs
open Go.Shelf
def Tryz.lays146_ren:Go.Shelf.Ren:=⟨fun | 138=>185 | 143=>186 | 146=>142 | 195=>197 | 197=>198 | 217=>208 | 218=>199 | 219=>200 | 221=>169 | 224=>210 | 225=>209 | 260=>207 | 266=>214 | 267=>211 | 268=>184 | 314=>215 | n=>n, fun | 0=>0 | 3=>3 | 4=>4 | 5=>5 | 9=>9 | 21=>21 | 31=>156 | 46=>166 | 51=>192 | 105=>236 | 119=>245 | 138=>247 | 139=>248 | 146=>249 | n=>n, fun | 1=>1 | 3=>2 | 4=>3 | n=>n⟩
theorem Tryz.maxLen_cell {w:World} (h:w.ShapedOpen Tryz.prog):∃ m, w.cell? ⟨Tryz.lays146_ren.g 1, 0, none⟩ = some (.int .i64 m):=
 Go.Proofs.cell_of_shapedOpen_int (zero:=#[.int .i64 0]) (t:=3) h (of_decide_eq_true (by kernel_rfl)) (by kernel_rfl) rfl (by kernel_rfl) (by kernel_rfl) Tryz.underlying3
end Go.Proofs
end
