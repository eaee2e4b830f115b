
import Derived.Test.YtaphehlgijlfeaaGreatDoorWiB
set_option linter.unusedVariables false
set_option linter.unusedSimpArgs false
section
namespace Go.Av
open Go.Proofs
set_option maxRecDepth 100000
set_option maxHeartbeats 1000000
variable {G : Glob}
end Go.Av
end
section
namespace Go.Av
open Go.Proofs
set_option maxRecDepth 100000
set_option maxHeartbeats 1000000
variable {G : Glob}
theorem ti9 : Tryz.prog.info? 9 = some Tryz.t9 := by kernel_rfl
theorem zrL : elemIs Tryz.prog 34 9 1 16 := ⟨Tryz.underlying34, Tryz.t9, _, by kernel_rfl, rfl, rfl, rfl, rfl, by decide⟩
theorem yJ : zau Tryz.prog 34 1 = true := by kernel_rfl
theorem ty9 : tyIs Tryz.prog 9 false 1 = true := by kernel_rfl
def yU (m : List Int) (j : Nat) : Int := m.foldl (fun s n => s + dig n j) 0
theorem xI {l : List (List UInt8)} {k : Nat} (h : k < l.length) : (l.map fun s => [eS s])[k]? = some [eS l[k]] := by simp [h]
theorem vZ {l : List (List UInt8)} : ∀ q ∈ l.map (fun s => [eS s]), q.length = 1 := by simp
theorem f29 (a b : List (List UInt8)) (ha : a.length <= 1000) : ACall Tryz.prog G 29 [jD a, jD b] (.v (.bool (decide (a = b)))) := by
 refine zS Tryz.func29 rfl (by kernel_rfl) rfl ?_
 refine zl (zh (zg rfl rfl (zn rfl rfl) (zo (zf (zl (zl (zh (zg rfl rfl (zq rfl rfl) (zg rfl rfl (qh rfl rfl rfl Tryz.underlying34) (zg rfl rfl (zq rfl rfl) (zg rfl rfl (qh rfl rfl rfl Tryz.underlying34) ?_)))))))))))
 refine zg rfl rfl (vg rfl rfl rfl) (zo (zf (zx rfl (fun h0 => ?_) (fun h0 => ?_))))
 ·
  have hne : a.length ≠ b.length := by simp [jD] at h0; omega
  refine zl (zh (zg rfl rfl (zn rfl rfl) (zo (zf (zP (zQ ?_))))))
  exact ⟨.inr rfl, AVle.of (by rw [decide_eq_false (fun e : a = b => hne (by rw [e]))])⟩
 ·
  have hle : a.length = b.length := by simp [jD] at h0; omega
  refine zC (zf (zl (zl (zh (zg rfl rfl (zn rfl rfl) (zo (zf (zB ?_))))))))
  refine qy (ι := { q : Nat // q <= a.length /\ a.take q = b.take q }) (fun q => ⟨Tryz.f29.ntmps, frL [(0, .pub (jD a)), (1, .pub (jD b)), (5, I (q.1 : Int))], []⟩) (fun q => a.length - q.1) (⟨0, by simp⟩) ?_ ?_
  ·
   exact zt _ ⟨rfl, rfl, rfl, trivial⟩ (rfl)
  ·
   rintro ⟨q, hq⟩
   dsimp only
   refine zl (zl (zh (zg rfl rfl (zi rfl rfl) (zg rfl rfl (zq rfl rfl) (zg rfl rfl (qh rfl rfl rfl Tryz.underlying34) (zg rfl rfl (qi rfl rfl rfl) (zo (zf (zx rfl (fun h1 => ?_) (fun h1 => ?_))))))))))
   ·
    have hlt : q < a.length := by simpa [jD] using h1
    have hlb : q < b.length := by omega
    refine zC (zf (zl (zB (zl ?_))))
    refine qY mixed (by kernel_rfl) rfl ?_
    refine zH rfl (zq rfl rfl) (zH rfl (zi rfl rfl) (zH rfl (zG rfl rfl rfl yJ (by omega) (xI hlt) vZ) (zH rfl (zA rfl rfl rfl ty9) (zH rfl (zq rfl rfl) (zH rfl (zi rfl rfl) (zH rfl (zG rfl rfl rfl yJ (by omega) (xI hlb) vZ) (zH rfl (zA rfl rfl rfl ty9) (zH rfl (zue rfl rfl rfl) (jw (zf (zx rfl (fun h2 => ?_) (fun h2 => ?_))))))))))))
    ·
     have hb : a[q] ≠ b[q] := by simpa using h2
     refine zl (zh (zg rfl rfl (zn rfl rfl) (zo (zf (zP (qF (zQ (zQ (qF (zQ ?_))))))))))
     exact ⟨.inr rfl, AVle.of (by rw [decide_eq_false (fun e : a = b => hb (by subst e; rfl))])⟩
    ·
     have hb : a[q] = b[q] := by simpa using h2
     refine zC (zD (zf (zh (zg rfl rfl (zi rfl rfl) (zg rfl rfl (zV rfl rfl rfl ⟨(by omega), (by omega)⟩) (zg rfl rfl (zn rfl rfl) (zo ?_)))))))
     exact ⟨⟨q + 1, by omega, by rw [List.take_succ_eq_append_getElem hlt, List.take_succ_eq_append_getElem hlb, hq.2, hb]⟩, by dsimp only; omega, zt _ ⟨rfl, rfl, rfl, trivial⟩ (rfl)⟩
   ·
    have hge : a.length <= q := by simpa [jD] using h1
    refine qp (zL (zL (qw (zf (zl (zh (zg rfl rfl (zn rfl rfl) (zo (zf (zP ?_))))))))))
    exact ⟨.inr rfl, AVle.of (by rw [List.take_of_length_le hge, List.take_of_length_le (by omega)] at hq; rw [decide_eq_true hq.2])⟩
end Go.Av
end
