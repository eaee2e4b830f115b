
import Derived.Test.YtaphehlgijlfeaaGreatDoorWiQ4
import Derived.Test.YtaphehlgijlfeaaGreatDoorWiP
import Derived.Test.YtaphehlgijlfeaaGreatDoorWiK
import Derived.Test.YtaphehlgijlfeaaGreatDoorWiD
set_option linter.unusedVariables false
set_option linter.unusedSimpArgs false
section
namespace Go.Av
open Go.Proofs
set_option maxRecDepth 100000
set_option maxHeartbeats 1000000
variable {G : Glob}
theorem zvr (nt : Nt) (hl : nt.lines.length <= 1000) {b : Bool} (h : zuA nt = b) : ACall Tryz.prog G 55 [.agg (eNt nt)] (.v (.bool b)) := h ▸ f55 nt hl
theorem zz3 {nt : Nt} {a z words most : Int} (h : rtB nt a z words most = none) : zuT nt a z most = [] := by
 unfold rtB at h
 cases hc : zuT nt a z most with
 | nil => rfl
 | cons b l => rw [hc] at h; cases h
theorem zzD {nt : Nt} {a z words most : Int} {r : List Int} (h : rtB nt a z words most = some r) : 0 < (zuT nt a z most).length /\ r = bsK (bt2 nt words) [] (zuT nt a z most) ((zuT nt a z most).length - 1) := by
 unfold rtB at h
 have hs := zw0 nt a z most
 cases hc : zuT nt a z most with
 | nil => rw [hc] at h; cases h
 | cons b l =>
  rw [hc] at h hs
  injection h with h
  refine ⟨by simp, ?_⟩
  show r = bsK (bt2 nt words) [] (b :: l) l.length
  rw [zzp, zzV hs, h]
theorem zwm (nt : Nt) (a z words most : Int) (hl : nt.lines.length <= 1000) (hok : zuE nt a z words most = true) (h : rtB nt a z words most = none) : ACall Tryz.prog G 51 [.agg (eNt nt), ei a, ei z, ei words, ei most] (.tup [.sl [], ei 0, ei 5]) := zyV nt a z words most hl hok (zz3 h)
theorem zwo (nt : Nt) (a z words most : Int) (hl : nt.lines.length <= 1000) (hok : zuE nt a z words most = true) {r : List Int} (h : rtB nt a z words most = some r) : ACall Tryz.prog G 51 [.agg (eNt nt), ei a, ei z, ei words, ei most] (.tup [zO r, ei (words * prc nt r), ei 0]) := zyH nt a z words most hl hok (zzD h).1 r (zzD h).2
theorem zv3 {nt : Nt} {a z words most : Int} (hok : zuE nt a z words most = true) {r : List Int} (h : rtB nt a z words most = some r) : r.length <= 6 /\ (∀ i ∈ r, inL nt i = true) /\ 0 <= words * prc nt r /\ words * prc nt r <= 100 * 60000 := by
 have hk := zuQ hok
 have h1 := (zvB hk.1 h).1.1
 have h2 := zwW hk.1 hk.2.1 h1
 have h3 := zvi hk.1 r
 exact ⟨h2, zu8 h1, zwa hk.2.2.2.1 ⟨h3.1, by omega⟩⟩
end Go.Av
end
