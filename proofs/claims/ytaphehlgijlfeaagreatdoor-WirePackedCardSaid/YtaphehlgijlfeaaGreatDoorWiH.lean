
import Derived.Test.YtaphehlgijlfeaaGreatDoorWiG
set_option linter.unusedVariables false
set_option linter.unusedSimpArgs false
section
namespace Go.Av
open Go.Proofs
set_option maxRecDepth 100000
set_option maxHeartbeats 1000000
variable {G : Glob}
theorem f109 (r : Int) : ACall Tryz.prog G 109 [.v (.int .u8 r)] (.v (.bool (zwt r))) := by
 refine zS Tryz.func109 rfl (by kernel_rfl) rfl ?_
 refine zl (zh (zg rfl rfl (zn rfl rfl) (zo (zf (zl (zh (zg rfl rfl (zi rfl rfl) (zg rfl rfl (zbe rfl rfl rfl) (zg rfl rfl (zi rfl rfl) (zk rfl rfl rfl (fun hg => zi rfl rfl) (zk rfl rfl rfl (fun hg => zaq rfl (if_pos hg) rfl) ?_)))))))))))
 refine zg rfl rfl (qI rfl rfl rfl rfl) (zg rfl rfl (zn rfl rfl) (zo (zf (zP ?_))))
 exact ⟨.inr rfl, AVle.refl _⟩
theorem f108 (w : List UInt8) (hl : w.length <= 9223372036854775807) : ACall Tryz.prog G 108 [eS w] (.v (.bool (ofB zwt w))) := by
 refine zS Tryz.func108 rfl (by kernel_rfl) rfl ?_
 refine zl (zh (zg rfl rfl (zn rfl rfl) (zo (zf (zl (zl (zh (zg rfl rfl (zn rfl rfl) (zo (zf (zB ?_)))))))))))
 refine qy (ι := { k : Nat // k <= w.length /\ (w.take k).all (fun b => zwt (b.toNat : Int)) = true }) (fun k => ⟨Tryz.f108.ntmps, frL [(0, SL w), (3, I (k.1 : Int))], []⟩) (fun k => w.length - k.1) (⟨0, by simp⟩) ?_ ?_
 ·
  exact zt _ ⟨rfl, rfl, trivial⟩ (rfl)
 ·
  rintro ⟨k, hk⟩
  dsimp only
  refine zl (zl (zh (zg rfl rfl (zi rfl rfl) (zg rfl rfl (zi rfl rfl) (zg rfl rfl (wE rfl rfl Tryz.underlying9) (zg rfl rfl (qi rfl rfl rfl) (zo (zf (zx rfl (fun h0 => ?_) (fun h0 => ?_))))))))))
  ·
   have hkl : k < w.length := by simp at h0; omega
   refine zC (zf (zl (zB (zl (zh (zg rfl rfl (zi rfl rfl) (zg rfl rfl (zi rfl rfl) ?_)))))))
   refine zg rfl rfl (wC rfl rfl rfl Tryz.underlying9 (by omega) (by rw [Int.toNat_natCast]; exact List.getElem?_eq_getElem hkl)) ?_
   refine zg rfl rfl (zy (av := [_]) rfl ⟨rfl, trivial⟩ (f109 _)) (zg rfl rfl (je rfl rfl) (zo (zf (zx rfl (fun h1 => ?_) (fun h1 => ?_)))))
   ·
    have hno : zwt (w[k].toNat : Int) = false := by simpa using h1
    refine zl (zh (zg rfl rfl (zn rfl rfl) (zo (zf (zP (qF (zQ (zQ (qF (zQ ?_))))))))))
    exact ⟨.inr rfl, AVle.of (by rw [zqo hkl hno])⟩
   ·
    have hyes : zwt (w[k].toNat : Int) = true := by simpa using h1
    refine zC (zD (zf (zh (zg rfl rfl (zi rfl rfl) (zg rfl rfl (zV rfl rfl rfl ⟨(by omega), (by omega)⟩) (zg rfl rfl (zn rfl rfl) (zo ?_)))))))
    exact ⟨⟨k + 1, by omega, zd3 hk.2 hkl hyes⟩, by dsimp only; omega, zt _ ⟨rfl, rfl, trivial⟩ (rfl)⟩
  ·
   have hge : w.length <= k := by simp at h0; omega
   refine qp (zL (zL (qw (zf (zl (zh (zg rfl rfl (zi rfl rfl) (zg rfl rfl (wE rfl rfl Tryz.underlying9) (zg rfl rfl (qJ rfl rfl rfl) (zg rfl rfl (zn rfl rfl) (zo ?_)))))))))))
   refine zf (zP ?_)
   exact ⟨.inr rfl, AVle.of (by rw [List.take_of_length_le hge] at hk; rw [ofB, hk.2, Bool.true_and]; exact congrArg (fun x : Bool => AV.v (Value.bool x)) (by rw [Bool.eq_iff_iff]; simp; omega))⟩
theorem f39 (a b : List Int) (ha : a.length <= 100000) : ACall Tryz.prog G 39 [zO a, zO b] (.v (.bool (decide (a = b)))) := by
 refine zS Tryz.func39 rfl (by kernel_rfl) rfl ?_
 refine zl (zh (zg rfl rfl (zn rfl rfl) (zo (zf (zl (zl (zh (zg rfl rfl (zq rfl rfl) (zg rfl rfl (qh rfl rfl rfl Tryz.underlying23) (zg rfl rfl (zq rfl rfl) (zg rfl rfl (qh rfl rfl rfl Tryz.underlying23) ?_)))))))))))
 refine zg rfl rfl (vg rfl rfl rfl) (zo (zf (zx rfl (fun h0 => ?_) (fun h0 => ?_))))
 ·
  have hne : a.length ≠ b.length := by simp [zO] at h0; omega
  refine zl (zh (zg rfl rfl (zn rfl rfl) (zo (zf (zP (zQ ?_))))))
  exact ⟨.inr rfl, AVle.of (by rw [decide_eq_false (fun e : a = b => hne (by rw [e]))])⟩
 ·
  have hle : a.length = b.length := by simp [zO] at h0; omega
  refine zC (zf (zl (zl (zh (zg rfl rfl (zn rfl rfl) (zo (zf (zB ?_))))))))
  refine qy (ι := { q : Nat // q <= a.length /\ a.take q = b.take q }) (fun q => ⟨Tryz.f39.ntmps, frL [(0, .pub (zO a)), (1, .pub (zO b)), (5, I (q.1 : Int))], []⟩) (fun q => a.length - q.1) (⟨0, by simp⟩) ?_ ?_
  ·
   exact zt _ ⟨rfl, rfl, rfl, trivial⟩ (rfl)
  ·
   rintro ⟨q, hq⟩
   dsimp only
   refine zl (zl (zh (zg rfl rfl (zi rfl rfl) (zg rfl rfl (zq rfl rfl) (zg rfl rfl (qh rfl rfl rfl Tryz.underlying23) (zg rfl rfl (qi rfl rfl rfl) (zo (zf (zx rfl (fun h1 => ?_) (fun h1 => ?_))))))))))
   ·
    have hlt : q < a.length := by simpa [zO] using h1
    have hlb : q < b.length := by omega
    refine zC (zf (zl (zB (zl ?_))))
    refine qY mixed (by kernel_rfl) rfl ?_
    refine zH rfl (zq rfl rfl) (zH rfl (zi rfl rfl) (zH rfl (zG rfl rfl rfl jv (by omega) (wu hlt) jC) (zH rfl (zA rfl rfl rfl ty3) (zH rfl (zq rfl rfl) (zH rfl (zi rfl rfl) (zH rfl (zG rfl rfl rfl jv (by omega) (wu hlb) jC) (zH rfl (zA rfl rfl rfl ty3) (zH rfl (vg rfl rfl rfl) (jw (zf (zx rfl (fun h2 => ?_) (fun h2 => ?_))))))))))))
    ·
     have hb : a[q] ≠ b[q] := by simpa using h2
     refine zl (zh (zg rfl rfl (zn rfl rfl) (zo (zf (zP (qF (zQ (zQ (qF (zQ ?_))))))))))
     exact ⟨.inr rfl, AVle.of (by rw [decide_eq_false (fun e : a = b => hb (by subst e; rfl))])⟩
    ·
     have hb : a[q] = b[q] := by simpa using h2
     refine zC (zD (zf (zh (zg rfl rfl (zi rfl rfl) (zg rfl rfl (zV rfl rfl rfl ⟨(by omega), (by omega)⟩) (zg rfl rfl (zn rfl rfl) (zo ?_)))))))
     exact ⟨⟨q + 1, by omega, by rw [List.take_succ_eq_append_getElem hlt, List.take_succ_eq_append_getElem hlb, hq.2, hb]⟩, by dsimp only; omega, zt _ ⟨rfl, rfl, rfl, trivial⟩ (rfl)⟩
   ·
    have hge : a.length <= q := by simpa [zO] using h1
    refine qp (zL (zL (qw (zf (zl (zh (zg rfl rfl (zn rfl rfl) (zo (zf (zP ?_))))))))))
    exact ⟨.inr rfl, AVle.of (by rw [List.take_of_length_le hge, List.take_of_length_le (by omega)] at hq; rw [decide_eq_true hq.2])⟩
end Go.Av
end
