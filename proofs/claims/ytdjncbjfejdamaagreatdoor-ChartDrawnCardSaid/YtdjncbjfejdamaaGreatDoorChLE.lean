import Derived.Test.YtdjncbjfejdamaaGreatDoorChLD
import Derived.Test.YtdjncbjfejdamaaGreatDoorPlatQ
set_option linter.unusedVariables false
set_option linter.unusedSimpArgs false
section
namespace Go.Av
open Go.Proofs
set_option maxRecDepth 100000
set_option maxHeartbeats 1000000
variable {G:Glob}
theorem zNS:zau Tryz.prog 133 4 = true:=by kernel_rfl
theorem zR8:zgU Tryz.prog 120 4 1 = true:=by kernel_rfl
theorem zRM:xn Tryz.prog 55 [(0, 1), (1, 2), (3, 2)] [.int .i64 0, .int .i64 0, .int .i64 0, .int .i64 0, .int .i64 0]:=⟨_, Tryz.underlying55, by kernel_rfl, by kernel_rfl⟩
theorem zRH:Tryz.prog.info? 55 = some Tryz.t55:=by kernel_rfl
theorem zRr:elemIs Tryz.prog 45 55 5 40:=⟨Tryz.underlying45, Tryz.t55, _, by kernel_rfl, rfl, rfl, rfl, rfl, by decide⟩
theorem ifp {α:Type} {c:Prop} [Decidable c] {a b:α} (h:c):(if c then a else b) = a:=if_pos h
theorem zOd {l:List Nat} {w k:Nat} (h:k < l.length):(l.map (eC4 w))[k]? = some (eC4 w (l.getD k 0)):=by simp [List.getD, h]
theorem zPt {l:List (Nat × Cr × Cr)}:∀ q ∈ l.map rJn, q.length = 5:=fun q h=>by obtain ⟨c, _, rfl⟩:=List.mem_map.1 h; rfl
theorem zHP {k:Nat} (l:List Cr):PO.okL k (.row (l.map rCr)):=by rw [zIg]; exact zM7
end Go.Av
end
section
namespace Go.Av
open Go.Proofs
set_option maxRecDepth 100000
set_option maxHeartbeats 1000000
variable {G:Glob}
theorem zMC:zau Tryz.prog 45 5 = true:=by kernel_rfl
theorem zMX:fldIs Tryz.prog 55 1 1 = true:=by kernel_rfl
theorem zMZ:fldIs Tryz.prog 55 2 3 = true:=by kernel_rfl
theorem zeB (c:Cr) (p:Cr × Cr):(prt c p).length <= 1:=by unfold prt; split <;> (try split) <;> simp
theorem zK7 {l:List (Nat × Cr × Cr)} {k:Nat} (h:k < l.length):(l.map eJn)[k]? = some (eJn l[k]):=by simp [h]
theorem zJ0 {l:List (Nat × Cr × Cr)}:∀ q ∈ l.map eJn, q.length = 5:=fun q h=>by obtain ⟨c, _, rfl⟩:=List.mem_map.1 h; rfl
theorem zIr {l:List Cr} {k:Nat} (h:k < l.length):(l.map rCr)[k]? = some (rCr (l.getD k (0, 0))):=by simp [List.getD, h]
end Go.Av
end
