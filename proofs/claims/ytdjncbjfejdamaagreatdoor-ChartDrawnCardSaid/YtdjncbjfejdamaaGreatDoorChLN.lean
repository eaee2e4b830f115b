/- ChartLines. -/
import Derived.Test.YtdjncbjfejdamaaGreatDoorChLM
import Derived.Test.YtdjncbjfejdamaaGreatDoorExG
import Derived.Test.YtdjncbjfejdamaaGreatDoorChP
set_option linter.unusedVariables false
set_option linter.unusedSimpArgs false
section
namespace Go.Av
open Go.Proofs
set_option maxRecDepth 100000
set_option maxHeartbeats 1000000
variable {G:Glob}
section
variable {fr:Nat -> EV} {mem:List PO} {o:Oper}
end
theorem zSs {L:List (List Cr)} {k:Nat} (h:k < L.length):(L.map fun x=>[zHA x])[k]? = some [zHA L[k]]:=by simp [h]
theorem zNs {h:Nat -> Bool} {w r:Nat} (hw6:w <= 6) (hr:r <= 5) (hwr:w * r <= 30):(zHT h w r).length <= 930 /\ ∀ l ∈ zHT h w r, l.length <= 930:=by
 have hal:=zKi (h:=h) hwr
 have hG:=zMI (h:=h) hw6 hr
 have hp:=lines_perm (h:=h) (w:=w) (r:=r)
 have e:zJV h w r = (stM (nbC h w r) (zH1 h w r) 2).2:=rfl
 rw [e] at hp
 have hk:=zJ7 hG (m:=1) (by omega) (zH1 h w r).length
 rw [zKm (by omega)] at hk
 refine ⟨by rw [hp.length_eq]; exact Nat.le_trans hk.2.1 hal, fun l hl=>?_⟩
 have hl2:=hp.mem_iff.1 hl
 obtain ⟨h1, h2, _⟩:=zN4 (h:=h) hw6 hr
 rw [List.nodup_iff_pairwise_ne, List.pairwise_flatten] at h2
 exact Nat.le_trans (List.Nodup.length_le_of_subset (List.nodup_iff_pairwise_ne.2 (h2.1 l hl2)) fun x hx=>(h1 l hl2).sub x hx) (by omega)
end Go.Av
end
