import Derived.Test.YtaphehlgijlfeaaGreatDoorWiF
set_option linter.unusedVariables false
set_option linter.unusedSimpArgs false
section
namespace Go.Av
open Go.Proofs
set_option maxRecDepth 100000
set_option maxHeartbeats 1000000
variable {G:Glob}
theorem f39 (a b:List Int) (ha:a.length <= 100000):ACall Tryz.prog G 39 [zO a, zO b] (.v (.bool (decide (a = b)))):=by
 refine zS Tryz.func39 Y (by kernel_rfl) Y ?_
 refine zuy (zh (zE8 (zn Y Y) (zo (zf (zuy (zuy (zh (zE8 (zq Y Y) (zE8 (qh Y Y Y Tryz.underlying23) (zE8 (zq Y Y) (zE8 (qh Y Y Y Tryz.underlying23) ?_)))))))))))
 refine zE8 (vg Y Y Y) (zo (zf (zx Y (fun h0=>?_) (fun h0=>?_))))
 ·
  have hne:a.length ≠ b.length:=by simp [zO] at h0; omega
  refine zuy (zh (zE8 (zn Y Y) (zo (zf (zP (zQ ?_))))))
  exact ⟨.inr Y, AVle.of (by rw [decide_eq_false (fun e:a = b=>hne (by rw [e]))])⟩
 ·
  have hle:a.length = b.length:=by simp [zO] at h0; omega
  refine zC (zf (zuy (zuy (zh (zE8 (zn Y Y) (zo (zf (zB ?_))))))))
  refine qy (ι:={ q:Nat // q <= a.length /\ a.take q = b.take q }) (fun q=>⟨Tryz.f39.ntmps, frL [(0, .pub (zO a)), (1, .pub (zO b)), (5, I (q.1:Int))], []⟩) (fun q=>a.length - q.1) (⟨0, by simp⟩) ?_ ?_
  ·
   exact zt _ ⟨Y, Y, Y, trivial⟩ (Y)
  ·
   rintro ⟨q, hq⟩
   dsimp only
   refine zuy (zuy (zh (zE8 (zi Y Y) (zE8 (zq Y Y) (zE8 (qh Y Y Y Tryz.underlying23) (zE8 (qi Y Y Y) (zo (zf (zx Y (fun h1=>?_) (fun h1=>?_))))))))))
   ·
    have hlt:q < a.length:=by simpa [zO] using h1
    have hlb:q < b.length:=by omega
    refine zC (zf (zuy (zB (zuy ?_))))
    refine qY mixed (by kernel_rfl) Y ?_
    refine zH Y (zq Y Y) (zH Y (zi Y Y) (zH Y (zG Y Y Y jv (by omega) (wu hlt) jC) (zH Y (zA Y Y Y ty3) (zH Y (zq Y Y) (zH Y (zi Y Y) (zH Y (zG Y Y Y jv (by omega) (wu hlb) jC) (zH Y (zA Y Y Y ty3) (zH Y (vg Y Y Y) (jw (zf (zx Y (fun h2=>?_) (fun h2=>?_))))))))))))
    ·
     have hb:a[q] ≠ b[q]:=by simpa using h2
     refine zuy (zh (zE8 (zn Y Y) (zo (zf (zP (qF (zQ (zQ (qF (zQ ?_))))))))))
     exact ⟨.inr Y, AVle.of (by rw [decide_eq_false (fun e:a = b=>hb (by subst e; rfl))])⟩
    ·
     have hb:a[q] = b[q]:=by simpa using h2
     refine zC (zD (zf (zh (zE8 (zi Y Y) (zE8 (zV Y Y Y ⟨(by omega), (by omega)⟩) (zE8 (zn Y Y) (zo ?_)))))))
     exact ⟨⟨q + 1, by omega, by rw [List.take_succ_eq_append_getElem hlt, List.take_succ_eq_append_getElem hlb, hq.2, hb]⟩, by dsimp only; omega, zt _ ⟨Y, Y, Y, trivial⟩ (Y)⟩
   ·
    have hge:a.length <= q:=by simpa [zO] using h1
    refine qp (zL (zL (qw (zf (zuy (zh (zE8 (zn Y Y) (zo (zf (zP ?_))))))))))
    exact ⟨.inr Y, AVle.of (by rw [List.take_of_length_le hge, List.take_of_length_le (by omega)] at hq; rw [decide_eq_true hq.2])⟩
end Go.Av
end
