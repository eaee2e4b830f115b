
import Derived.Test.YtaphehlgijlfeaaGreatDoorWiO
import Derived.Test.YtaphehlgijlfeaaGreatDoorWiN
import Derived.Test.YtaphehlgijlfeaaGreatDoorPlatN
import Derived.Test.YtaphehlgijlfeaaGreatDoorWiM
set_option linter.unusedVariables false
set_option linter.unusedSimpArgs false
section
namespace Go.Av
open Go.Proofs
theorem zi8 : ∀ {a b : List Int} {k : Nat}, a.take k = b.take k -> k <= a.length -> k <= b.length -> ltL a b = ltL (a.drop k) (b.drop k) := by
  intro a
  induction a with
  | nil => intro b k _ h2 _; have : k = 0 := by simpa using h2
           subst this; simp
  | cons x a ih =>
    intro b k h h2 h3
    cases k with
    | zero => simp
    | succ k =>
      cases b with
      | nil => simp at h3
      | cons y b =>
        simp only [List.take_succ_cons, List.cons.injEq] at h
        obtain ⟨rfl, h⟩ := h
        simp only [List.drop_succ_cons]
        rw [← ih h (by simpa using h2) (by simpa using h3)]
        simp [ltL]
theorem zrh {a b : List Int} {k : Nat} (h : a.take k = b.take k) (ha : k < a.length) (hb : k < b.length) (hne : a[k] ≠ b[k]) : ltL a b = decide (a[k] < b[k]) := by
 rw [zi8 h (by omega) (by omega), List.drop_eq_getElem_cons ha, List.drop_eq_getElem_cons hb]
 simp [ltL, hne]
theorem zpu {a b : List Int} {k : Nat} (h : a.take k = b.take k) (ha : k <= a.length) (hb : k <= b.length) (hq : a.length <= k ∨ b.length <= k) : ltL a b = decide (a.length < b.length) := by
 rw [zi8 h ha hb]
 by_cases h1 : a.length <= k
 ·
  rw [List.drop_eq_nil_of_le h1]
  by_cases h2 : b.length <= k
  ·
   rw [List.drop_eq_nil_of_le h2]; simp [ltL]; omega
  ·
   rw [List.drop_eq_getElem_cons (show k < b.length by omega)]; simp [ltL]; omega
 ·
  have h2 : b.length <= k := by omega
  rw [List.drop_eq_nil_of_le h2, List.drop_eq_getElem_cons (show k < a.length by omega)]
  simp [ltL]; omega
end Go.Av
end
section
namespace Go.Av
open Go.Proofs
set_option maxRecDepth 100000
set_option maxHeartbeats 1000000
variable {G : Glob}
theorem f42 (a b : List Int) (ha : a.length <= 100000) (hb : b.length <= 100000) : ACall Tryz.prog G 42 [zO a, zO b] (.v (.bool (ltL a b))) := by
 refine zS Tryz.func42 rfl (by kernel_rfl) rfl ?_
 refine zl (zh (zg rfl rfl (zn rfl rfl) (zo (zf (zl (zl (zh (zg rfl rfl (zn rfl rfl) (zo (zf (zB ?_)))))))))))
 refine qy (ι := { k : Nat // k <= a.length /\ k <= b.length /\ a.take k = b.take k }) (fun k => ⟨Tryz.f42.ntmps, frL [(0, .pub (zO a)), (1, .pub (zO b)), (5, I (k.1 : Int))], []⟩) (fun k => a.length - k.1) (⟨0, by simp⟩) ?_ ?_
 ·
  exact zt _ ⟨rfl, rfl, rfl, trivial⟩ (rfl)
 ·
  rintro ⟨k, hk⟩
  dsimp only
  refine zl (zl (zh (zg rfl rfl (zi rfl rfl) (zg rfl rfl (zq rfl rfl) (zg rfl rfl (qh rfl rfl rfl Tryz.underlying23) (zg rfl rfl (qi rfl rfl rfl) (zg rfl rfl (zi rfl rfl) (zk rfl rfl rfl (fun hg => zi rfl rfl) (zk rfl rfl rfl (fun hg => zq rfl rfl) (zk rfl rfl rfl (fun hg => qh rfl rfl (if_pos hg) Tryz.underlying23) (zk rfl rfl rfl (fun hg => qi rfl (if_pos hg) (if_pos hg)) ?_)))))))))))
  refine zg rfl rfl (qI rfl rfl rfl rfl) (zo (zf (zx rfl (fun h_0 => ?_) (fun h_0 => ?_))))
  ·
   have hla : k < a.length := by simp [zO] at h_0; omega
   have hlb : k < b.length := by simp [zO] at h_0; omega
   refine zC (zf (zl (zB (zl ?_))))
   refine qY mixed (by kernel_rfl) rfl ?_
   refine zH rfl (zq rfl rfl) (zH rfl (zi rfl rfl) (zH rfl (zG rfl rfl rfl jv (by omega) (wu hla) jC) (zH rfl (zA rfl rfl rfl ty3) (zH rfl (zq rfl rfl) (zH rfl (zi rfl rfl) (zH rfl (zG rfl rfl rfl jv (by omega) (wu hlb) jC) (zH rfl (zA rfl rfl rfl ty3) (zH rfl (vg rfl rfl rfl) (jw (zf (zx rfl (fun h_1 => ?_) (fun h_1 => ?_))))))))))))
   ·
    have hne : a[k] ≠ b[k] := by simpa using h_1
    refine zl ?_
    refine qY mixed (by kernel_rfl) rfl ?_
    refine zH rfl (zq rfl rfl) (zH rfl (zi rfl rfl) (zH rfl (zG rfl rfl rfl jv (by omega) (wu hla) jC) (zH rfl (zA rfl rfl rfl ty3) (zH rfl (zq rfl rfl) (zH rfl (zi rfl rfl) (zH rfl (zG rfl rfl rfl jv (by omega) (wu hlb) jC) (zH rfl (zA rfl rfl rfl ty3) (zH rfl (qi rfl rfl rfl) (zH rfl (zn rfl rfl) (jw (zf ?_)))))))))))
    refine zP (qF (zQ (zQ (qF (zQ ?_)))))
    exact ⟨.inr rfl, AVle.of (by rw [zrh hk.2.2 hla hlb hne])⟩
   ·
    have heq : a[k] = b[k] := by simpa using h_1
    refine zC (zD (zf (zh (zg rfl rfl (zi rfl rfl) (zg rfl rfl (zV rfl rfl rfl ⟨(by omega), (by omega)⟩) (zg rfl rfl (zn rfl rfl) (zo ?_)))))))
    exact ⟨⟨k + 1, by omega, by omega, by rw [List.take_succ_eq_append_getElem hla, List.take_succ_eq_append_getElem hlb, hk.2.2, heq]⟩, by dsimp only; omega, zt _ ⟨rfl, rfl, rfl, trivial⟩ (rfl)⟩
  ·
   have hge : a.length <= k ∨ b.length <= k := by simp [zO] at h_0; omega
   refine qp (zL (zL (qw (zf (zl (zh (zg rfl rfl (zq rfl rfl) (zg rfl rfl (qh rfl rfl rfl Tryz.underlying23) (zg rfl rfl (zq rfl rfl) (zg rfl rfl (qh rfl rfl rfl Tryz.underlying23) (zg rfl rfl (qi rfl rfl rfl) ?_)))))))))))
   refine zg rfl rfl (zn rfl rfl) (zo (zf (zP ?_)))
   exact ⟨.inr rfl, AVle.of (by rw [zpu hk.2.2 hk.1 hk.2.1 hge]; simp [zO])⟩
end Go.Av
end
section
namespace Go.Av
open Go.Proofs
set_option maxRecDepth 100000
set_option maxHeartbeats 1000000
variable {G : Glob}
end Go.Av
end
section
namespace Go.Av
open Go.Proofs
end Go.Av
end
