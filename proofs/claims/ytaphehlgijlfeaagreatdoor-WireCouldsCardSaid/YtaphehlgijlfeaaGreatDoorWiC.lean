
import Derived.Test.YtaphehlgijlfeaaGreatDoorWiB
set_option linter.unusedVariables false
set_option linter.unusedSimpArgs false
section
namespace Go.Av
open Go.Proofs
set_option maxRecDepth 100000
set_option maxHeartbeats 1000000
variable {G : Glob}
def chk (m : List Int) : G5 := m.foldl (fun s n => ⟨(s.a + (qB n).a) % 10, (s.b + (qB n).b) % 10, (s.c + (qB n).c) % 10, (s.d + (qB n).d) % 10, (s.e + (qB n).e) % 10⟩) ⟨0, 0, 0, 0, 0⟩
def vV (m : List Int) : List G5 := m.map qB ++ [chk m]
end Go.Av
end
section
namespace Go.Av
open Go.Proofs
set_option maxRecDepth 100000
set_option maxHeartbeats 1000000
variable {G : Glob}
theorem ti9 : Tryz.prog.info? 9 = some Tryz.t9 := by kernel_rfl
theorem zrL : elemIs Tryz.prog 34 9 1 16 := ⟨Tryz.underlying34, Tryz.t9, _, by kernel_rfl, rfl, rfl, rfl, rfl, by decide⟩
theorem yJ : zau Tryz.prog 34 1 = true := by kernel_rfl
theorem ty9 : tyIs Tryz.prog 9 false 1 = true := by kernel_rfl
def yU (m : List Int) (j : Nat) : Int := m.foldl (fun s n => s + dig n j) 0
def ckN (m : List Int) : Nat -> Int
 | 0 => 0
 | j + 1 => 10 * ckN m j + yU m j % 10
theorem zq7 : ∀ (m : List Int) (s : G5) (t : Int), s.a = t % 10 -> (m.foldl (fun s n => (⟨(s.a + (qB n).a) % 10, (s.b + (qB n).b) % 10, (s.c + (qB n).c) % 10, (s.d + (qB n).d) % 10, (s.e + (qB n).e) % 10⟩ : G5)) s).a = (m.foldl (fun s n => s + dig n 0) t) % 10
 | [], _, _, h => h
 | n :: m, s, t, h => zq7 m _ _ (by show (s.a + (qB n).a) % 10 = (t + (qB n).a) % 10; rw [h]; omega)
theorem zqN : ∀ (m : List Int) (s : G5) (t : Int), s.b = t % 10 -> (m.foldl (fun s n => (⟨(s.a + (qB n).a) % 10, (s.b + (qB n).b) % 10, (s.c + (qB n).c) % 10, (s.d + (qB n).d) % 10, (s.e + (qB n).e) % 10⟩ : G5)) s).b = (m.foldl (fun s n => s + dig n 1) t) % 10
 | [], _, _, h => h
 | n :: m, s, t, h => zqN m _ _ (by show (s.b + (qB n).b) % 10 = (t + (qB n).b) % 10; rw [h]; omega)
theorem zra : ∀ (m : List Int) (s : G5) (t : Int), s.c = t % 10 -> (m.foldl (fun s n => (⟨(s.a + (qB n).a) % 10, (s.b + (qB n).b) % 10, (s.c + (qB n).c) % 10, (s.d + (qB n).d) % 10, (s.e + (qB n).e) % 10⟩ : G5)) s).c = (m.foldl (fun s n => s + dig n 2) t) % 10
 | [], _, _, h => h
 | n :: m, s, t, h => zra m _ _ (by show (s.c + (qB n).c) % 10 = (t + (qB n).c) % 10; rw [h]; omega)
theorem zqQ : ∀ (m : List Int) (s : G5) (t : Int), s.d = t % 10 -> (m.foldl (fun s n => (⟨(s.a + (qB n).a) % 10, (s.b + (qB n).b) % 10, (s.c + (qB n).c) % 10, (s.d + (qB n).d) % 10, (s.e + (qB n).e) % 10⟩ : G5)) s).d = (m.foldl (fun s n => s + dig n 3) t) % 10
 | [], _, _, h => h
 | n :: m, s, t, h => zqQ m _ _ (by show (s.d + (qB n).d) % 10 = (t + (qB n).d) % 10; rw [h]; omega)
theorem zqZ : ∀ (m : List Int) (s : G5) (t : Int), s.e = t % 10 -> (m.foldl (fun s n => (⟨(s.a + (qB n).a) % 10, (s.b + (qB n).b) % 10, (s.c + (qB n).c) % 10, (s.d + (qB n).d) % 10, (s.e + (qB n).e) % 10⟩ : G5)) s).e = (m.foldl (fun s n => s + dig n 4) t) % 10
 | [], _, _, h => h
 | n :: m, s, t, h => zqZ m _ _ (by show (s.e + (qB n).e) % 10 = (t + (qB n).e) % 10; rw [h]; omega)
theorem zk0 (m : List Int) : qB (ckN m 5) = chk m := by
 have e : qB (ckN m 5) = ⟨yU m 0 % 10, yU m 1 % 10, yU m 2 % 10, yU m 3 % 10, yU m 4 % 10⟩ := by
  simp only [qB, ckN]
  congr 1 <;> omega
 have ha := zq7 m ⟨0, 0, 0, 0, 0⟩ 0 rfl
 have hb := zqN m ⟨0, 0, 0, 0, 0⟩ 0 rfl
 have hc := zra m ⟨0, 0, 0, 0, 0⟩ 0 rfl
 have hd := zqQ m ⟨0, 0, 0, 0, 0⟩ 0 rfl
 have he := zqZ m ⟨0, 0, 0, 0, 0⟩ 0 rfl
 rw [e]
 cases hk : chk m
 simp only [chk] at hk
 rw [hk] at ha hb hc hd he
 simp only at ha hb hc hd he
 subst ha; subst hb; subst hc; subst hd; subst he
 rfl
theorem xI {l : List (List UInt8)} {k : Nat} (h : k < l.length) : (l.map fun s => [eS s])[k]? = some [eS l[k]] := by simp [h]
theorem vZ {l : List (List UInt8)} : ∀ q ∈ l.map (fun s => [eS s]), q.length = 1 := by simp
theorem f29 (a b : List (List UInt8)) (ha : a.length <= 1000) : ACall Tryz.prog G 29 [jD a, jD b] (.v (.bool (decide (a = b)))) := by
 refine zS Tryz.func29 rfl (by kernel_rfl) rfl ?_
 refine zl (zh (zg rfl rfl (zn rfl rfl) (zo (zf (zl (zl (zh (zg rfl rfl (zq rfl rfl) (zg rfl rfl (qh rfl rfl rfl Tryz.underlying34) (zg rfl rfl (zq rfl rfl) (zg rfl rfl (qh rfl rfl rfl Tryz.underlying34) ?_)))))))))))
 refine zg rfl rfl (vg rfl rfl rfl) (zo (zf (zx rfl (fun h0 => ?_) (fun h0 => ?_))))
 ·
  have hne : a.length ≠ b.length := by simp [jD] at h0; omega
  refine zl (zh (zg rfl rfl (zn rfl rfl) (zo (zf (zP (zQ ?_))))))
  exact ⟨.inr rfl, AVle.of (by rw [decide_eq_false (fun e : a = b => hne (by rw [e]))])⟩
 ·
  have hle : a.length = b.length := by simp [jD] at h0; omega
  refine zC (zf (zl (zl (zh (zg rfl rfl (zn rfl rfl) (zo (zf (zB ?_))))))))
  refine qy (ι := { q : Nat // q <= a.length /\ a.take q = b.take q }) (fun q => ⟨Tryz.f29.ntmps, frL [(0, .pub (jD a)), (1, .pub (jD b)), (5, I (q.1 : Int))], []⟩) (fun q => a.length - q.1) (⟨0, by simp⟩) ?_ ?_
  ·
   exact zt _ ⟨rfl, rfl, rfl, trivial⟩ (rfl)
  ·
   rintro ⟨q, hq⟩
   dsimp only
   refine zl (zl (zh (zg rfl rfl (zi rfl rfl) (zg rfl rfl (zq rfl rfl) (zg rfl rfl (qh rfl rfl rfl Tryz.underlying34) (zg rfl rfl (qi rfl rfl rfl) (zo (zf (zx rfl (fun h1 => ?_) (fun h1 => ?_))))))))))
   ·
    have hlt : q < a.length := by simpa [jD] using h1
    have hlb : q < b.length := by omega
    refine zC (zf (zl (zB (zl ?_))))
    refine qY mixed (by kernel_rfl) rfl ?_
    refine zH rfl (zq rfl rfl) (zH rfl (zi rfl rfl) (zH rfl (zG rfl rfl rfl yJ (by omega) (xI hlt) vZ) (zH rfl (zA rfl rfl rfl ty9) (zH rfl (zq rfl rfl) (zH rfl (zi rfl rfl) (zH rfl (zG rfl rfl rfl yJ (by omega) (xI hlb) vZ) (zH rfl (zA rfl rfl rfl ty9) (zH rfl (zue rfl rfl rfl) (jw (zf (zx rfl (fun h2 => ?_) (fun h2 => ?_))))))))))))
    ·
     have hb : a[q] ≠ b[q] := by simpa using h2
     refine zl (zh (zg rfl rfl (zn rfl rfl) (zo (zf (zP (qF (zQ (zQ (qF (zQ ?_))))))))))
     exact ⟨.inr rfl, AVle.of (by rw [decide_eq_false (fun e : a = b => hb (by subst e; rfl))])⟩
    ·
     have hb : a[q] = b[q] := by simpa using h2
     refine zC (zD (zf (zh (zg rfl rfl (zi rfl rfl) (zg rfl rfl (zV rfl rfl rfl ⟨(by omega), (by omega)⟩) (zg rfl rfl (zn rfl rfl) (zo ?_)))))))
     exact ⟨⟨q + 1, by omega, by rw [List.take_succ_eq_append_getElem hlt, List.take_succ_eq_append_getElem hlb, hq.2, hb]⟩, by dsimp only; omega, zt _ ⟨rfl, rfl, rfl, trivial⟩ (rfl)⟩
   ·
    have hge : a.length <= q := by simpa [jD] using h1
    refine qp (zL (zL (qw (zf (zl (zh (zg rfl rfl (zn rfl rfl) (zo (zf (zP ?_))))))))))
    exact ⟨.inr rfl, AVle.of (by rw [List.take_of_length_le hge, List.take_of_length_le (by omega)] at hq; rw [decide_eq_true hq.2])⟩
theorem f21 (c : Cod) : ACall Tryz.prog G 21 [.agg (qK c)] (.v (.bool (decide (c.fields.length <= 6) && decide (c.turns.length <= 14)))) := by
 refine zS Tryz.func21 rfl (by kernel_rfl) rfl ?_
 refine zl (zh (zg rfl rfl (jf rfl (zY rfl)) (zg rfl rfl (zn rfl rfl) (zo (zf (zl (zh (zg rfl rfl (zu rfl rfl jS) (zg rfl rfl (zA rfl rfl rfl zah) (zg rfl rfl (qh rfl rfl rfl Tryz.underlying22) (zg rfl rfl (zaq rfl rfl rfl) ?_)))))))))))
 refine zg rfl rfl (zi rfl rfl) (zk rfl rfl rfl (fun hg => zu rfl rfl kU) (zk rfl rfl rfl (fun hg => zA rfl (if_pos hg) rfl jO) (zk rfl rfl rfl (fun hg => qh rfl rfl (if_pos hg) Tryz.underlying23) (zk rfl rfl rfl (fun hg => zaq rfl (if_pos hg) rfl) (zg rfl rfl (qI rfl rfl rfl rfl) (zg rfl rfl (zn rfl rfl) (zo (zf (zP ?_)))))))))
 exact ⟨.inr rfl, AVle.of (by simp only [zO, List.length_map]; exact congrArg (fun x : Bool => AV.v (Value.bool x)) (congr (congrArg (fun a b : Bool => a && b) (decide_eq_decide.2 (by omega))) (decide_eq_decide.2 (by omega))))⟩
end Go.Av
end
