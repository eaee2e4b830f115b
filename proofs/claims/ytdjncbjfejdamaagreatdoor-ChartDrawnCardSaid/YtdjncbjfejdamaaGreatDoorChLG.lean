import Derived.Test.YtdjncbjfejdamaaGreatDoorChLE
import Derived.Test.YtdjncbjfejdamaaGreatDoorChLF
import Derived.Test.YtdjncbjfejdamaaGreatDoorPlatQ
set_option linter.unusedVariables false
set_option linter.unusedSimpArgs false
section
namespace Go.Av
open Go.Proofs
set_option maxRecDepth 100000
set_option maxHeartbeats 1000000
variable {G:Glob}
open Go.Gr
theorem mbC {st:ASt} {o:Oper} {x:Operand} {c:Cr} (ho:o.op = .buildSlice 48 1 #[(0, x)]) (hd:vC o st.n = true) (hx:evO st.fr x = .pub (.agg (eCr c))):
  OpM Tryz.prog G st o ⟨st.n, jr st.fr o.dst (.psl st.mem.length 1), st.mem ++ [.row [rCr c]]⟩:=
 zOj (rows:=[rCr c]) (qs:=[(0, rCr c)]) (size:=2) ho hd Tryz.underlying48 zKq rfl (by decide) rfl (by decide) ⟨_, _, rfl, zY hx, rfl⟩ rfl (by simp [rCr]) rfl (by decide) (by simp [rCr])
theorem last_at (t:List Cr) (x:Cr):((t ++ [x]).map rCr)[((((t ++ [x]).length:Int)) - 1).toNat]? = some (rCr x):=by
 have:((((t ++ [x]).length:Int)) - 1).toNat = t.length:=by simp
 rw [this]; simp
end Go.Av
end
