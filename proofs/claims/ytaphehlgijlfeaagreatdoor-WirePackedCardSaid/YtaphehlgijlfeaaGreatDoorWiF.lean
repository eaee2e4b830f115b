
import Derived.Test.YtaphehlgijlfeaaGreatDoorWiE
set_option linter.unusedVariables false
set_option linter.unusedSimpArgs false
section
namespace Go.Av
open Go.Proofs
set_option maxRecDepth 100000
set_option maxHeartbeats 1000000
variable {G : Glob}
end Go.Av
end
section
namespace Go.Av
open Go.Proofs
set_option maxRecDepth 100000
set_option maxHeartbeats 1000000
variable {G : Glob}
def zjc (l : List (List UInt8)) : Bool := decide (l.length <= 12) && l.all fun w => decide (w.length <= 9)
theorem zwh {l : List (List UInt8)} (h : zjc l = true) : l.length <= 12 := by simp [zjc] at h; exact h.1
theorem f65 (l : List (List UInt8)) : ACall Tryz.prog G 65 [jD l] (.v (.bool (zjc l))) := by
 refine zS Tryz.func65 rfl (by kernel_rfl) rfl ?_
 refine zl (zh (zg rfl rfl (zn rfl rfl) (zo (zf (zl (zl (zh (zg rfl rfl (zn rfl rfl) (zo (zf (zB ?_)))))))))))
 refine qy (ι := { q : Nat // q <= l.length /\ q <= 12 /\ (l.take q).all (fun w => decide (w.length <= 9)) = true }) (fun q => ⟨Tryz.f65.ntmps, frL [(0, .pub (jD l)), (3, I (q.1 : Int))], []⟩) (fun q => l.length - q.1) (⟨0, by simp⟩) ?_ ?_
 ·
  exact zt _ ⟨rfl, rfl, trivial⟩ (rfl)
 ·
  rintro ⟨q, hq⟩
  dsimp only
  refine zl (zl (zh (zg rfl rfl (zi rfl rfl) (zg rfl rfl (zq rfl rfl) (zg rfl rfl (qh rfl rfl rfl Tryz.underlying34) (zg rfl rfl (qi rfl rfl rfl) (zg rfl rfl (zi rfl rfl) (zk rfl rfl rfl (fun hg => zi rfl rfl) (zk rfl rfl rfl (fun hg => qi rfl (if_pos hg) rfl) (zg rfl rfl (qI rfl rfl rfl rfl) (zo ?_)))))))))))
  refine zf (zx rfl (fun h0 => ?_) (fun h0 => ?_))
  ·
   have hlt : q < l.length := by simp [jD] at h0; omega
   have hl12 : q < 12 := by simp [jD] at h0; omega
   refine zC (zf (zl (zB (zl (zh (zg rfl rfl (zq rfl rfl) (zg rfl rfl (zi rfl rfl) (zg rfl rfl (zG rfl rfl rfl yJ (by omega) (xI hlt) vZ) (zg rfl rfl (zA rfl rfl rfl ty9) (zg rfl rfl (wE rfl rfl Tryz.underlying9) (zg rfl rfl (qR rfl rfl rfl) ?_)))))))))))
   refine zo (zf (zx rfl (fun h1 => ?_) (fun h1 => ?_)))
   ·
    have hb : decide (l[q].length <= 9) = false := by simp at h1 ⊢; omega
    refine zl (zh (zg rfl rfl (zn rfl rfl) (zo (zf (zP (qF (zQ (zQ (qF (zQ ?_))))))))))
    exact ⟨.inr rfl, AVle.of (by rw [zjc, zaW (p := fun w : List UInt8 => decide (w.length <= 9)) hlt hb, Bool.and_false])⟩
   ·
    have hb : decide (l[q].length <= 9) = true := by simp at h1 ⊢; omega
    refine zC (zD (zf (zh (zg rfl rfl (zi rfl rfl) (zg rfl rfl (zV rfl rfl rfl ⟨(by omega), (by omega)⟩) (zg rfl rfl (zn rfl rfl) (zo ?_)))))))
    exact ⟨⟨q + 1, by omega, by omega, xQ hq.2.2 hlt hb⟩, by dsimp only; omega, zt _ ⟨rfl, rfl, trivial⟩ (rfl)⟩
  ·
   have hge : l.length <= q ∨ 12 <= q := by simp [jD] at h0; omega
   refine qp (zL (zL (qw (zf (zl (zh (zg rfl rfl (zq rfl rfl) (zg rfl rfl (qh rfl rfl rfl Tryz.underlying34) (zg rfl rfl (zaq rfl rfl rfl) (zg rfl rfl (zn rfl rfl) (zo ?_)))))))))))
   refine zf (zP ?_)
   exact ⟨.inr rfl, AVle.of (congrArg (fun x : Bool => AV.v (Value.bool x)) (by rw [Bool.eq_iff_iff]; simp only [zjc, jD, List.length_map, Bool.and_eq_true, decide_eq_true_eq, List.all_eq_true]; constructor; exact fun h => ⟨by omega, fun w hw => by have h3 := hq.2.2; rw [List.take_of_length_le (by omega), List.all_eq_true] at h3; exact of_decide_eq_true (h3 w hw)⟩; exact fun h => by omega))⟩
end Go.Av
end
