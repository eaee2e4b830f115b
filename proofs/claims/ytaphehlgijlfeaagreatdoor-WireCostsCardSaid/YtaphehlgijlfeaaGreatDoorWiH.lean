
import Derived.Test.YtaphehlgijlfeaaGreatDoorWiG
set_option linter.unusedVariables false
set_option linter.unusedSimpArgs false
section
namespace Go.Av
open Go.Proofs
set_option maxRecDepth 100000
set_option maxHeartbeats 1000000
variable {G : Glob}
theorem f39 (a b : List Int) (ha : a.length <= 100000) : ACall Tryz.prog G 39 [zO a, zO b] (.v (.bool (decide (a = b)))) := by
 refine zS Tryz.func39 rfl (by kernel_rfl) rfl ?_
 refine zl (zh (zg rfl rfl (zn rfl rfl) (zo (zf (zl (zl (zh (zg rfl rfl (zq rfl rfl) (zg rfl rfl (qh rfl rfl rfl Tryz.underlying23) (zg rfl rfl (zq rfl rfl) (zg rfl rfl (qh rfl rfl rfl Tryz.underlying23) ?_)))))))))))
 refine zg rfl rfl (vg rfl rfl rfl) (zo (zf (zx rfl (fun h0 => ?_) (fun h0 => ?_))))
 ·
  have hne : a.length ≠ b.length := by simp [zO] at h0; omega
  refine zl (zh (zg rfl rfl (zn rfl rfl) (zo (zf (zP (zQ ?_))))))
  exact ⟨.inr rfl, AVle.of (by rw [decide_eq_false (fun e : a = b => hne (by rw [e]))])⟩
 ·
  have hle : a.length = b.length := by simp [zO] at h0; omega
  refine zC (zf (zl (zl (zh (zg rfl rfl (zn rfl rfl) (zo (zf (zB ?_))))))))
  refine qy (ι := { q : Nat // q <= a.length /\ a.take q = b.take q }) (fun q => ⟨Tryz.f39.ntmps, frL [(0, .pub (zO a)), (1, .pub (zO b)), (5, I (q.1 : Int))], []⟩) (fun q => a.length - q.1) (⟨0, by simp⟩) ?_ ?_
  ·
   exact zt _ ⟨rfl, rfl, rfl, trivial⟩ (rfl)
  ·
   rintro ⟨q, hq⟩
   dsimp only
   refine zl (zl (zh (zg rfl rfl (zi rfl rfl) (zg rfl rfl (zq rfl rfl) (zg rfl rfl (qh rfl rfl rfl Tryz.underlying23) (zg rfl rfl (qi rfl rfl rfl) (zo (zf (zx rfl (fun h1 => ?_) (fun h1 => ?_))))))))))
   ·
    have hlt : q < a.length := by simpa [zO] using h1
    have hlb : q < b.length := by omega
    refine zC (zf (zl (zB (zl ?_))))
    refine qY mixed (by kernel_rfl) rfl ?_
    refine zH rfl (zq rfl rfl) (zH rfl (zi rfl rfl) (zH rfl (zG rfl rfl rfl jv (by omega) (wu hlt) jC) (zH rfl (zA rfl rfl rfl ty3) (zH rfl (zq rfl rfl) (zH rfl (zi rfl rfl) (zH rfl (zG rfl rfl rfl jv (by omega) (wu hlb) jC) (zH rfl (zA rfl rfl rfl ty3) (zH rfl (vg rfl rfl rfl) (jw (zf (zx rfl (fun h2 => ?_) (fun h2 => ?_))))))))))))
    ·
     have hb : a[q] ≠ b[q] := by simpa using h2
     refine zl (zh (zg rfl rfl (zn rfl rfl) (zo (zf (zP (qF (zQ (zQ (qF (zQ ?_))))))))))
     exact ⟨.inr rfl, AVle.of (by rw [decide_eq_false (fun e : a = b => hb (by subst e; rfl))])⟩
    ·
     have hb : a[q] = b[q] := by simpa using h2
     refine zC (zD (zf (zh (zg rfl rfl (zi rfl rfl) (zg rfl rfl (zV rfl rfl rfl ⟨(by omega), (by omega)⟩) (zg rfl rfl (zn rfl rfl) (zo ?_)))))))
     exact ⟨⟨q + 1, by omega, by rw [List.take_succ_eq_append_getElem hlt, List.take_succ_eq_append_getElem hlb, hq.2, hb]⟩, by dsimp only; omega, zt _ ⟨rfl, rfl, rfl, trivial⟩ (rfl)⟩
   ·
    have hge : a.length <= q := by simpa [zO] using h1
    refine qp (zL (zL (qw (zf (zl (zh (zg rfl rfl (zn rfl rfl) (zo (zf (zP ?_))))))))))
    exact ⟨.inr rfl, AVle.of (by rw [List.take_of_length_le hge, List.take_of_length_le (by omega)] at hq; rw [decide_eq_true hq.2])⟩
end Go.Av
end
