import Derived.Test.YtaphehlgijlfeaaGreatDoorWiO
import Derived.Test.YtaphehlgijlfeaaGreatDoorWiN
import Derived.Test.YtaphehlgijlfeaaGreatDoorPlatH
import Derived.Test.YtaphehlgijlfeaaGreatDoorWiM
import Derived.Test.YtaphehlgijlfeaaGreatDoorWiQ
set_option linter.unusedVariables false
set_option linter.unusedSimpArgs false
section
namespace Go.Av
open Go.Proofs
theorem zi8:∀ {a b:List Int} {k:Nat}, a.take k = b.take k -> k <= a.length -> k <= b.length -> ltL a b = ltL (a.drop k) (b.drop k):=by
  intro a
  induction a with
  | nil => intro b k _ h2 _; have : k = 0 := by simpa using h2
           subst this; simp
  | cons x a ih=>
    intro b k h h2 h3
    cases k with
    | zero=>simp
    | succ k=>
      cases b with
      | nil=>simp at h3
      | cons y b=>
        simp only[List.take_succ_cons, List.cons.injEq] at h
        obtain ⟨rfl, h⟩:=h
        simp only[List.drop_succ_cons]
        rw [← ih h (by simpa using h2) (by simpa using h3)]
        simp [ltL]
theorem zrh {a b:List Int} {k:Nat} (h:a.take k = b.take k) (ha:k < a.length) (hb:k < b.length) (hne:a[k] ≠ b[k]):ltL a b = decide (a[k] < b[k]):=by
 rw [zi8 h (by omega) (by omega), List.drop_eq_getElem_cons ha, List.drop_eq_getElem_cons hb]
 simp [ltL, hne]
theorem zpu {a b:List Int} {k:Nat} (h:a.take k = b.take k) (ha:k <= a.length) (hb:k <= b.length) (hq:a.length <= k ∨ b.length <= k):ltL a b = decide (a.length < b.length):=by
 rw [zi8 h ha hb]
 by_cases h1:a.length <= k
 ·
  rw [List.drop_eq_nil_of_le h1]
  by_cases h2:b.length <= k
  ·
   rw [List.drop_eq_nil_of_le h2]; simp [ltL]; omega
  ·
   rw [List.drop_eq_getElem_cons (show k < b.length by omega)]; simp [ltL]; omega
 ·
  have h2:b.length <= k:=by omega
  rw [List.drop_eq_nil_of_le h2, List.drop_eq_getElem_cons (show k < a.length by omega)]
  simp [ltL]; omega
end Go.Av
end
section
namespace Go.Av
open Go.Proofs
set_option maxRecDepth 100000
set_option maxHeartbeats 1000000
variable {G:Glob}
theorem f42 (a b:List Int) (ha:a.length <= 100000) (hb:b.length <= 100000):ACall Tryz.prog G 42 [zO a, zO b] (.v (.bool (ltL a b))):=by
 refine zS Tryz.func42 Y (by kernel_rfl) Y ?_
 refine zuy (zh (zE8 (zn Y Y) (zo (zf (zuy (zuy (zh (zE8 (zn Y Y) (zo (zf (zB ?_)))))))))))
 refine qy (ι:={ k:Nat // k <= a.length /\ k <= b.length /\ a.take k = b.take k }) (fun k=>⟨Tryz.f42.ntmps, frL [(0, .pub (zO a)), (1, .pub (zO b)), (5, I (k.1:Int))], []⟩) (fun k=>a.length - k.1) (⟨0, by simp⟩) ?_ ?_
 ·
  exact zt _ ⟨Y, Y, Y, trivial⟩ (Y)
 ·
  rintro ⟨k, hk⟩
  dsimp only
  refine zuy (zuy (zh (zE8 (zi Y Y) (zE8 (zq Y Y) (zE8 (qh Y Y Y Tryz.underlying23) (zE8 (qi Y Y Y) (zE8 (zi Y Y) (zE9 Y (fun hg=>zi Y Y) (zE9 Y (fun hg=>zq Y Y) (zE9 Y (fun hg=>qh Y Y (if_pos hg) Tryz.underlying23) (zE9 Y (fun hg=>qi Y (if_pos hg) (if_pos hg)) ?_)))))))))))
  refine zE8 (qI Y Y Y Y) (zo (zf (zx Y (fun h_0=>?_) (fun h_0=>?_))))
  ·
   have hla:k < a.length:=by simp [zO] at h_0; omega
   have hlb:k < b.length:=by simp [zO] at h_0; omega
   refine zC (zf (zuy (zB (zuy ?_))))
   refine qY mixed (by kernel_rfl) Y ?_
   refine zH Y (zq Y Y) (zH Y (zi Y Y) (zH Y (zG Y Y Y jv (by omega) (wu hla) jC) (zH Y (zA Y Y Y ty3) (zH Y (zq Y Y) (zH Y (zi Y Y) (zH Y (zG Y Y Y jv (by omega) (wu hlb) jC) (zH Y (zA Y Y Y ty3) (zH Y (vg Y Y Y) (jw (zf (zx Y (fun h_1=>?_) (fun h_1=>?_))))))))))))
   ·
    have hne:a[k] ≠ b[k]:=by simpa using h_1
    refine zuy ?_
    refine qY mixed (by kernel_rfl) Y ?_
    refine zH Y (zq Y Y) (zH Y (zi Y Y) (zH Y (zG Y Y Y jv (by omega) (wu hla) jC) (zH Y (zA Y Y Y ty3) (zH Y (zq Y Y) (zH Y (zi Y Y) (zH Y (zG Y Y Y jv (by omega) (wu hlb) jC) (zH Y (zA Y Y Y ty3) (zH Y (qi Y Y Y) (zH Y (zn Y Y) (jw (zf ?_)))))))))))
    refine zP (qF (zQ (zQ (qF (zQ ?_)))))
    exact ⟨.inr Y, AVle.of (by rw [zrh hk.2.2 hla hlb hne])⟩
   ·
    have heq:a[k] = b[k]:=by simpa using h_1
    refine zC (zD (zf (zh (zE8 (zi Y Y) (zE8 (zV Y Y Y ⟨(by omega), (by omega)⟩) (zE8 (zn Y Y) (zo ?_)))))))
    exact ⟨⟨k + 1, by omega, by omega, by rw [List.take_succ_eq_append_getElem hla, List.take_succ_eq_append_getElem hlb, hk.2.2, heq]⟩, by dsimp only; omega, zt _ ⟨Y, Y, Y, trivial⟩ (Y)⟩
  ·
   have hge:a.length <= k ∨ b.length <= k:=by simp [zO] at h_0; omega
   refine qp (zL (zL (qw (zf (zuy (zh (zE8 (zq Y Y) (zE8 (qh Y Y Y Tryz.underlying23) (zE8 (zq Y Y) (zE8 (qh Y Y Y Tryz.underlying23) (zE8 (qi Y Y Y) ?_)))))))))))
   refine zE8 (zn Y Y) (zo (zf (zP ?_)))
   exact ⟨.inr Y, AVle.of (by rw [zpu hk.2.2 hk.1 hk.2.1 hge]; simp [zO])⟩
end Go.Av
end
section
namespace Go.Av
open Go.Proofs
end Go.Av
end
section
namespace Go.Av
open Go.Proofs
set_option maxRecDepth 100000
set_option maxHeartbeats 1000000
variable {G:Glob}
theorem ifp {α:Type} {c:Prop} [Decidable c] {a b:α} (h:c):(if c then a else b) = a:=if_pos h
end Go.Av
end
section
namespace Go.Av
open Go.Proofs
def zlt (K:Nat) (g:List (List UInt8)) (p:Nat):Prop:=∀ j, j <= K -> chF g j p ≠ 63
open Classical in
noncomputable def zci (K:Nat) (g:List (List UInt8)) (p:Nat):Nat:=if zlt K g p then 0 else 1
end Go.Av
end
section
namespace Go.Av
open Go.Proofs
set_option maxRecDepth 100000
set_option maxHeartbeats 1000000
variable {G:Glob}
end Go.Av
end
