
import Derived.Test.YtaphehlgijlfeaaGreatDoorWiZ
import Derived.Test.YtaphehlgijlfeaaGreatDoorWiV
set_option linter.unusedVariables false
set_option linter.unusedSimpArgs false
section
namespace Go.Av
open Go.Proofs
set_option maxRecDepth 100000
set_option maxHeartbeats 1000000
variable {G : Glob}
def bst (c : Cod) (L : List (List Int)) (k : Nat) : Int × Int := xC (kK (c.fields.length + 1) L) k
theorem zq0 (c : Cod) (L : List (List Int)) : bst c L 0 = ((0 : Int), (kL L 0 : Int)) := by
 unfold bst; rw [xC, zhs (by omega)]; rfl
theorem zqa {c : Cod} {L : List (List Int)} {k : Nat} (h : k < c.fields.length) (hb : ((kL L (k + 1) : Nat) : Int) < (bst c L k).2) : bst c L (k + 1) = (((k + 1 : Nat) : Int), (kL L (k + 1) : Int)) := by
 have e := zhs (n := c.fields.length + 1) (i := k + 1) (L := L) (by omega)
 unfold bst at hb ⊢
 rw [xC, e, if_pos hb]
theorem zrO {c : Cod} {L : List (List Int)} {k : Nat} (h : k < c.fields.length) (hb : ¬ ((kL L (k + 1) : Nat) : Int) < (bst c L k).2) : bst c L (k + 1) = bst c L k := by
 have e := zhs (n := c.fields.length + 1) (i := k + 1) (L := L) (by omega)
 unfold bst at hb ⊢
 rw [xC, e, if_neg hb]
theorem zlE (c : Cod) (L : List (List Int)) : bst c L c.fields.length = zbD (kK (c.fields.length + 1) L) := by
 unfold bst zbD; rw [zbT]; rfl
theorem zsA (L : List (List Int)) (p : Nat) (hL : L.length <= 4000000) (hm : ∀ m ∈ L, p <= m.length /\ m.length <= 1000 /\ ∀ x ∈ m, 0 <= x /\ x <= 1000000000000) : ACall Tryz.prog G 45 [jc L, ei (p : Int)] (ei ((kL L p : Nat) : Int)) := by
 have := f45 (G := G) L p hL hm
 rwa [zmc (fun m h => (hm m h).1)] at this
theorem zdN {s f : Bool} (h : (!s || !f) = false) : s = true /\ f = true := by revert h; cases s <;> cases f <;> simp
theorem zps {c : Cod} {l : List (List (List UInt8))} (h : kJ c l ≠ 0) : dG c l = 0 /\ dN c l = 0 := by unfold dG dN; rw [if_neg h, if_neg h]; exact ⟨rfl, rfl⟩
theorem zfb {c : Cod} {l : List (List (List UInt8))} (h : yT c l ≠ 0) : kJ c l = yT c l := by unfold kJ; rw [if_neg h]
theorem zfe {c : Cod} {l : List (List (List UInt8))} (h : yT c l = 0) (h2 : kC c l = []) : kJ c l = 5 := by unfold kJ; rw [if_pos h, if_pos h2]
theorem zp7 {c : Cod} {l : List (List (List UInt8))} (h : yT c l = 0) (h2 : kC c l ≠ []) : kJ c l = 0 := by unfold kJ; rw [if_pos h, if_neg h2]
theorem f44 (c : Cod) (L : List (List Int)) (hc : 1 <= c.fields.length /\ c.fields.length <= 3) (hL : L.length <= 4000000) (hm : ∀ m ∈ L, m.length = c.fields.length /\ ∀ x ∈ m, 0 <= x /\ x <= 1000000000000) : ACall Tryz.prog G 44 [.agg (qK c), jc L] (.tup [ei (zbD (kK (c.fields.length + 1) L)).1, ei (zbD (kK (c.fields.length + 1) L)).2]) := by
 refine zS Tryz.func44 rfl (by kernel_rfl) rfl ?_
 refine zl (zh (zg rfl rfl (jf rfl (zY rfl)) (zg rfl rfl (zn rfl rfl) (zg rfl rfl (zn rfl rfl) (zo (zf (zl (zh (zg rfl rfl (zq rfl rfl) ?_)))))))))
 refine zg rfl rfl (zy (av := [_, _]) rfl ⟨rfl, rfl, trivial⟩ (zsA L 0 hL (fun m h => by have := hm m h; exact ⟨by omega, by omega, this.2⟩))) ?_
 refine zg rfl rfl (zn rfl rfl) (zg rfl rfl (zn rfl rfl) (zo (zf (zl (zl (zh (zg rfl rfl (zn rfl rfl) (zo (zf (zB ?_))))))))))
 refine qy (ι := { k : Nat // k <= c.fields.length }) (fun k => ⟨Tryz.f44.ntmps, frL [(1, .pub (jc L)), (2, .pub (.ptr (qK c))), (6, I (bst c L k.1).1), (7, I (bst c L k.1).2), (8, I ((k.1 + 1 : Nat) : Int))], []⟩) (fun k => c.fields.length - k.1) (⟨0, by omega⟩) ?_ ?_
 ·
  exact zt _ ⟨rfl, rfl, (congrArg I (by rw [zq0])), (congrArg I (by rw [zq0])), rfl, trivial⟩ (rfl)
 ·
  rintro ⟨k, hk⟩
  dsimp only
  refine zl (zl (zh (zg rfl rfl (zi rfl rfl) (zg rfl rfl (zu rfl rfl jS) (zg rfl rfl (zA rfl rfl rfl zah) (zg rfl rfl (qh rfl rfl rfl Tryz.underlying22) (zg rfl rfl (zaq rfl rfl rfl) (zo (zf (zx rfl (fun h_0 => ?_) (fun h_0 => ?_)))))))))))
  ·
   have hk : k < c.fields.length := by simp at h_0; omega
   refine zC (zf (zl (zB (zl (zh (zg rfl rfl (zq rfl rfl) (zg rfl rfl (zi rfl rfl) ?_)))))))
   refine zg rfl rfl (zy (av := [_, _]) rfl ⟨rfl, rfl, trivial⟩ (zsA L (k + 1) hL (fun m h => by have := hm m h; exact ⟨by omega, by omega, this.2⟩))) ?_
   refine zg rfl rfl (zn rfl rfl) (zo (zf (zl (zh (zg rfl rfl (zi rfl rfl) (zg rfl rfl (zi rfl rfl) (zg rfl rfl (qi rfl rfl rfl) (zo (zf (zx rfl (fun h_1 => ?_) (fun h_1 => ?_)))))))))))
   ·
    have hb := zqa (L := L) hk (by simpa using h_1)
    have e6 : ((k + 1 : Nat) : Int) = (bst c L (k + 1)).1 := by rw [hb]
    have e7 : ((kL L (k + 1) : Nat) : Int) = (bst c L (k + 1)).2 := by rw [hb]
    refine zh (zg rfl rfl (zi rfl rfl) (zg rfl rfl (zi rfl rfl) (zg rfl rfl (zn rfl rfl) (zg rfl rfl (zn rfl rfl) (zo (zD (zf (zh (zg rfl rfl (zi rfl rfl) (zg rfl rfl (zV rfl rfl rfl ⟨(by omega), (by omega)⟩) (zg rfl rfl (zn rfl rfl) ?_)))))))))))
    refine zo ?_
    exact ⟨⟨k + 1, by omega⟩, by dsimp only; omega, zt _ ⟨rfl, rfl, (congrArg I e6), (congrArg I e7), rfl, trivial⟩ (rfl)⟩
   ·
    have hb := zrO (L := L) hk (by simpa using h_1)
    have e6 : (bst c L k).1 = (bst c L (k + 1)).1 := by rw [hb]
    have e7 : (bst c L k).2 = (bst c L (k + 1)).2 := by rw [hb]
    refine zC (zD (zf (zh (zg rfl rfl (zi rfl rfl) (zg rfl rfl (zV rfl rfl rfl ⟨(by omega), (by omega)⟩) (zg rfl rfl (zn rfl rfl) (zo ?_)))))))
    exact ⟨⟨k + 1, by omega⟩, by dsimp only; omega, zt _ ⟨rfl, rfl, (congrArg I e6), (congrArg I e7), rfl, trivial⟩ (rfl)⟩
  ·
   have hk2 : k = c.fields.length := by simp at h_0; omega
   refine qp (zL (zL (qw (zf (zl (zh (zg rfl rfl (zi rfl rfl) (zg rfl rfl (zi rfl rfl) (zg rfl rfl (zn rfl rfl) (zg rfl rfl (zn rfl rfl) (zo ?_)))))))))))
   refine zf (zP ?_)
   exact ⟨.inr rfl, ⟨_, rfl, ⟨_, _, rfl, AVle.of (by rw [hk2, zlE]; rfl), ⟨_, _, rfl, AVle.of (by rw [hk2, zlE]; rfl), rfl⟩⟩⟩⟩
theorem zrm (hk : KN G) (c : Cod) (l : List (List (List UInt8))) (hA : yT c l ≠ 0) : ACall Tryz.prog G 7 [.agg (qK c), qO l] (.v (.bool true)) := by
 refine zS Tryz.func7 rfl (by kernel_rfl) rfl ?_
 refine zl (zh (zg rfl rfl (jf rfl (zY rfl)) (zg rfl rfl (zn rfl rfl) (zo (zf (zl (zl (zh (zg rfl rfl (zZ rfl rfl wH (by exact zLb rfl)) (zg rfl rfl (zy (av := [_]) rfl ⟨rfl, trivial⟩ (zoc c (b := y7 c) rfl)) (zg rfl rfl (je rfl rfl) ?_)))))))))))
 refine zg rfl rfl (zi rfl rfl) (zk rfl rfl rfl (fun hg => zq rfl rfl) (zk rfl rfl rfl (fun hg => zy (av := [_]) rfl ⟨((if_pos hg)), trivial⟩ (f22 l)) (zk rfl rfl rfl (fun hg => je rfl (if_pos hg)) (zg rfl rfl (qU rfl rfl rfl rfl) (zo (zf (zx rfl (fun h_0 => ?_) (fun h_0 => ?_))))))))
 ·
  refine zl (zh (zg rfl rfl (zy (av := []) rfl trivial hk) (zg rfl rfl (zn rfl rfl) (zo (zf (zP (zQ ?_)))))))
  exact ⟨.inr rfl, AVle.refl _⟩
 ·
  have H := zdN h_0
  have z1 := zav H.1
  have z2 := (zb8 H.2).1
  have z3 := (zb8 H.2).2
  refine zC (zf (zl (zh (zg rfl rfl (zZ rfl rfl wH (by exact zLb rfl)) (zg rfl rfl (zq rfl rfl) (zg rfl rfl (zy (av := [_, _]) rfl ⟨rfl, rfl, trivial⟩ (f43 c l z1 z2 z3)) (zg rfl rfl (zq rfl rfl) (zg rfl rfl (zN rfl rfl rfl) (zg rfl rfl (zN rfl rfl rfl) (zg rfl rfl (zN rfl rfl rfl) (zg rfl rfl (zn rfl rfl) ?_)))))))))))
  refine zg rfl rfl (zn rfl rfl) (zg rfl rfl (zn rfl rfl) (zo (zf (zl (zh (zg rfl rfl (zZ rfl rfl wH (by exact zLb rfl)) (zg rfl rfl (zq rfl rfl) (zg rfl rfl (zy (av := [_, _]) rfl ⟨rfl, rfl, trivial⟩ (f26 c l z1 z2 z3)) (zg rfl rfl (zn rfl rfl) (zo (zf ?_)))))))))))
  refine zl (zh (zg rfl rfl (zn rfl rfl) (zo (zf (zl (zl (zh (zg rfl rfl (zi rfl rfl) (zg rfl rfl (qJ rfl rfl rfl) (zo (zf (zx rfl (fun h_1 => ?_) (fun h_1 => ?_)))))))))))))
  ·
   exact absurd (by simpa using h_1) hA
  ·
   refine zC (zf (zl (zl (zh (zg rfl rfl (zi rfl rfl) (zg rfl rfl (vg rfl rfl rfl) (zo (zf (zx rfl (fun h_3 => ?_) (fun h_3 => ?_))))))))))
   ·
    refine zl (zh (zg rfl rfl (zi rfl rfl) (zg rfl rfl (zi rfl rfl) (zg rfl rfl (qJ rfl rfl rfl) (zg rfl rfl (zi rfl rfl) (zk rfl rfl rfl (fun hg => zi rfl rfl) (zk rfl rfl rfl (fun hg => qJ rfl (if_pos hg) rfl) (zg rfl rfl (qI rfl rfl rfl rfl) (zg rfl rfl (zi rfl rfl) (zk rfl rfl rfl (fun hg => zi rfl rfl) (zk rfl rfl rfl (fun hg => qJ rfl (if_pos hg) rfl) ?_)))))))))))
    refine zg rfl rfl (qI rfl rfl rfl rfl) (zg rfl rfl (zi rfl rfl) (zk rfl rfl rfl (fun hg => zy (av := []) rfl trivial hk) (zg rfl rfl (qI rfl rfl rfl rfl) (zg rfl rfl (zn rfl rfl) (zo (zf (zP (zQ ?_))))))))
    exact ⟨.inr rfl, AVle.of (congrArg (fun x : Bool => AV.v (Value.bool x)) (by rw [zfb hA, (zps (by rw [zfb hA]; exact hA)).1, (zps (by rw [zfb hA]; exact hA)).2]; simp))⟩
   ·
    exact absurd (by simpa using h_3) hA
theorem zrH (hk : KN G) (c : Cod) (l : List (List (List UInt8))) (hA : yT c l = 0) (hN : kC c l = []) : ACall Tryz.prog G 7 [.agg (qK c), qO l] (.v (.bool true)) := by
 obtain ⟨q1, q2, q3, q4⟩ := zh6 hA
 refine zS Tryz.func7 rfl (by kernel_rfl) rfl ?_
 refine zl (zh (zg rfl rfl (jf rfl (zY rfl)) (zg rfl rfl (zn rfl rfl) (zo (zf (zl (zl (zh (zg rfl rfl (zZ rfl rfl wH (by exact zLb rfl)) (zg rfl rfl (zy (av := [_]) rfl ⟨rfl, trivial⟩ (zoc c (b := y7 c) rfl)) (zg rfl rfl (je rfl rfl) ?_)))))))))))
 refine zg rfl rfl (zi rfl rfl) (zk rfl rfl rfl (fun hg => zq rfl rfl) (zk rfl rfl rfl (fun hg => zy (av := [_]) rfl ⟨((if_pos hg)), trivial⟩ (f22 l)) (zk rfl rfl rfl (fun hg => je rfl (if_pos hg)) (zg rfl rfl (qU rfl rfl rfl rfl) (zo (zf (zx rfl (fun h_0 => ?_) (fun h_0 => ?_))))))))
 ·
  refine zl (zh (zg rfl rfl (zy (av := []) rfl trivial hk) (zg rfl rfl (zn rfl rfl) (zo (zf (zP (zQ ?_)))))))
  exact ⟨.inr rfl, AVle.refl _⟩
 ·
  have H := zdN h_0
  have z1 := zav H.1
  have z2 := (zb8 H.2).1
  have z3 := (zb8 H.2).2
  refine zC (zf (zl (zh (zg rfl rfl (zZ rfl rfl wH (by exact zLb rfl)) (zg rfl rfl (zq rfl rfl) (zg rfl rfl (zy (av := [_, _]) rfl ⟨rfl, rfl, trivial⟩ (f43 c l z1 z2 z3)) (zg rfl rfl (zq rfl rfl) (zg rfl rfl (zN rfl rfl rfl) (zg rfl rfl (zN rfl rfl rfl) (zg rfl rfl (zN rfl rfl rfl) (zg rfl rfl (zn rfl rfl) ?_)))))))))))
  refine zg rfl rfl (zn rfl rfl) (zg rfl rfl (zn rfl rfl) (zo (zf (zl (zh (zg rfl rfl (zZ rfl rfl wH (by exact zLb rfl)) (zg rfl rfl (zq rfl rfl) (zg rfl rfl (zy (av := [_, _]) rfl ⟨rfl, rfl, trivial⟩ (f26 c l z1 z2 z3)) (zg rfl rfl (zn rfl rfl) (zo (zf ?_)))))))))))
  refine zl (zh (zg rfl rfl (zn rfl rfl) (zo (zf (zl (zl (zh (zg rfl rfl (zi rfl rfl) (zg rfl rfl (qJ rfl rfl rfl) (zo (zf (zx rfl (fun h_1 => ?_) (fun h_1 => ?_)))))))))))))
  ·
   refine zl (zh (zg rfl rfl (zZ rfl rfl wH (by exact zLb rfl)) (zg rfl rfl (zq rfl rfl) (zg rfl rfl (zy (av := [_, _]) rfl ⟨rfl, rfl, trivial⟩ (f27 c l q1 q2 q3 q4)) (zg rfl rfl (zW rfl rfl) (zo (zf (zl (zh (zg rfl rfl (zq rfl rfl) (zg rfl rfl (qh rfl rfl rfl Tryz.underlying30) ?_)))))))))))
   refine zg rfl rfl (qJ rfl rfl rfl) (zo (zf (zx rfl (fun h_2 => ?_) (fun h_2 => ?_))))
   ·
    refine zh (zg rfl rfl (zn rfl rfl) (zo (zf (zl (zl (zh (zg rfl rfl (zi rfl rfl) (zg rfl rfl (vg rfl rfl rfl) (zo (zf (zx rfl (fun h_3 => ?_) (fun h_3 => ?_))))))))))))
    ·
     refine zl (zh (zg rfl rfl (zi rfl rfl) (zg rfl rfl (zi rfl rfl) (zg rfl rfl (qJ rfl rfl rfl) (zg rfl rfl (zi rfl rfl) (zk rfl rfl rfl (fun hg => zi rfl rfl) (zk rfl rfl rfl (fun hg => qJ rfl (if_pos hg) rfl) (zg rfl rfl (qI rfl rfl rfl rfl) (zg rfl rfl (zi rfl rfl) (zk rfl rfl rfl (fun hg => zi rfl rfl) (zk rfl rfl rfl (fun hg => qJ rfl (if_pos hg) rfl) ?_)))))))))))
     refine zg rfl rfl (qI rfl rfl rfl rfl) (zg rfl rfl (zi rfl rfl) (zk rfl rfl rfl (fun hg => zy (av := []) rfl trivial hk) (zg rfl rfl (qI rfl rfl rfl rfl) (zg rfl rfl (zn rfl rfl) (zo (zf (zP (zQ ?_))))))))
     exact ⟨.inr rfl, AVle.of (congrArg (fun x : Bool => AV.v (Value.bool x)) (by rw [zfe hA hN, (zps (by rw [zfe hA hN]; decide)).1, (zps (by rw [zfe hA hN]; decide)).2]; rfl))⟩
    ·
     exact absurd h_3 (by decide)
   ·
    exfalso; rw [zcb q1 q2 q4, hN] at h_2; simp [jc] at h_2
  ·
   exact absurd hA (by simpa using h_1)
theorem zsq (hk : KN G) (c : Cod) (l : List (List (List UInt8))) (hA : yT c l = 0) (hN : kC c l ≠ []) : ACall Tryz.prog G 7 [.agg (qK c), qO l] (.v (.bool true)) := by
 obtain ⟨q1, q2, q3, q4⟩ := zh6 hA
 refine zS Tryz.func7 rfl (by kernel_rfl) rfl ?_
 refine zl (zh (zg rfl rfl (jf rfl (zY rfl)) (zg rfl rfl (zn rfl rfl) (zo (zf (zl (zl (zh (zg rfl rfl (zZ rfl rfl wH (by exact zLb rfl)) (zg rfl rfl (zy (av := [_]) rfl ⟨rfl, trivial⟩ (zoc c (b := y7 c) rfl)) (zg rfl rfl (je rfl rfl) ?_)))))))))))
 refine zg rfl rfl (zi rfl rfl) (zk rfl rfl rfl (fun hg => zq rfl rfl) (zk rfl rfl rfl (fun hg => zy (av := [_]) rfl ⟨((if_pos hg)), trivial⟩ (f22 l)) (zk rfl rfl rfl (fun hg => je rfl (if_pos hg)) (zg rfl rfl (qU rfl rfl rfl rfl) (zo (zf (zx rfl (fun h_0 => ?_) (fun h_0 => ?_))))))))
 ·
  refine zl (zh (zg rfl rfl (zy (av := []) rfl trivial hk) (zg rfl rfl (zn rfl rfl) (zo (zf (zP (zQ ?_)))))))
  exact ⟨.inr rfl, AVle.refl _⟩
 ·
  have H := zdN h_0
  have z1 := zav H.1
  have z2 := (zb8 H.2).1
  have z3 := (zb8 H.2).2
  refine zC (zf (zl (zh (zg rfl rfl (zZ rfl rfl wH (by exact zLb rfl)) (zg rfl rfl (zq rfl rfl) (zg rfl rfl (zy (av := [_, _]) rfl ⟨rfl, rfl, trivial⟩ (f43 c l z1 z2 z3)) (zg rfl rfl (zq rfl rfl) (zg rfl rfl (zN rfl rfl rfl) (zg rfl rfl (zN rfl rfl rfl) (zg rfl rfl (zN rfl rfl rfl) (zg rfl rfl (zn rfl rfl) ?_)))))))))))
  refine zg rfl rfl (zn rfl rfl) (zg rfl rfl (zn rfl rfl) (zo (zf (zl (zh (zg rfl rfl (zZ rfl rfl wH (by exact zLb rfl)) (zg rfl rfl (zq rfl rfl) (zg rfl rfl (zy (av := [_, _]) rfl ⟨rfl, rfl, trivial⟩ (f26 c l z1 z2 z3)) (zg rfl rfl (zn rfl rfl) (zo (zf ?_)))))))))))
  refine zl (zh (zg rfl rfl (zn rfl rfl) (zo (zf (zl (zl (zh (zg rfl rfl (zi rfl rfl) (zg rfl rfl (qJ rfl rfl rfl) (zo (zf (zx rfl (fun h_1 => ?_) (fun h_1 => ?_)))))))))))))
  ·
   refine zl (zh (zg rfl rfl (zZ rfl rfl wH (by exact zLb rfl)) (zg rfl rfl (zq rfl rfl) (zg rfl rfl (zy (av := [_, _]) rfl ⟨rfl, rfl, trivial⟩ (f27 c l q1 q2 q3 q4)) (zg rfl rfl (zW rfl rfl) (zo (zf (zl (zh (zg rfl rfl (zq rfl rfl) (zg rfl rfl (qh rfl rfl rfl Tryz.underlying30) ?_)))))))))))
   refine zg rfl rfl (qJ rfl rfl rfl) (zo (zf (zx rfl (fun h_2 => ?_) (fun h_2 => ?_))))
   ·
    exfalso; rw [zcb q1 q2 q4] at h_2; simp [jc] at h_2; exact hN h_2
   ·
    have hE := zp7 hA hN
    have hfm := zk5 hE
    have hcb := wI q1
    have hLb := (zce c l).1
    have hfl : zcq c l = xU c l := by rw [zcb q1 q2 q4, (zoA hE).2.1]
    refine zC (zf (zl (zl (zh (zg rfl rfl (zi rfl rfl) (zg rfl rfl (vg rfl rfl rfl) (zo (zf (zx rfl (fun h_3 => ?_) (fun h_3 => ?_))))))))))
    ·
     exfalso; rw [hA] at h_3; exact absurd h_3 (by decide)
    ·
     refine zC (zf (zl (zh (zg rfl rfl (zZ rfl rfl wH (by exact zLb rfl)) (zg rfl rfl (zq rfl rfl) ?_)))))
     refine zg rfl rfl (zy (av := [_, _]) rfl ⟨rfl, rfl, trivial⟩ (f44 c (zcq c l) hcb.1 (by rw [hfl]; exact hLb) (by rw [hfl]; exact fun m hm => ⟨(hfm.2 m hm).2.1, (hfm.2 m hm).2.2⟩))) ?_
     refine zg rfl rfl (zq rfl rfl) (zg rfl rfl (zN rfl rfl rfl) (zg rfl rfl (zN rfl rfl rfl) (zg rfl rfl (zn rfl rfl) (zg rfl rfl (zn rfl rfl) (zo (zf (zl (zh (zg rfl rfl (zi rfl rfl) (zg rfl rfl (qJ rfl rfl rfl) (zg rfl rfl (zi rfl rfl) ?_)))))))))))
     refine zk rfl rfl rfl (fun hg => zi rfl rfl) (zk rfl rfl rfl (fun hg => zi rfl rfl) (zk rfl rfl rfl (fun hg => qJ rfl (if_pos hg) (if_pos hg)) (zg rfl rfl (qI rfl rfl rfl rfl) (zg rfl rfl (zi rfl rfl) (zk rfl rfl rfl (fun hg => zi rfl rfl) (zk rfl rfl rfl (fun hg => zi rfl rfl) (zk rfl rfl rfl (fun hg => qJ rfl (if_pos hg) (if_pos hg)) (zg rfl rfl (qI rfl rfl rfl rfl) (zg rfl rfl (zi rfl rfl) (zk rfl rfl rfl (fun hg => zy (av := []) rfl trivial hk) (zg rfl rfl (qI rfl rfl rfl rfl) ?_)))))))))))
     refine zg rfl rfl (zn rfl rfl) (zo (zf (zP ?_)))
     exact ⟨.inr rfl, AVle.of (congrArg (fun x : Bool => AV.v (Value.bool x)) (by rw [hE, hfl]; unfold dG dN; rw [if_pos hE, if_pos hE]; simp))⟩
  ·
   exact absurd hA (by simpa using h_1)
theorem f7 (hk : KN G) (c : Cod) (l : List (List (List UInt8))) : ACall Tryz.prog G 7 [.agg (qK c), qO l] (.v (.bool true)) := by
 by_cases hA : yT c l = 0
 ·
  by_cases hN : kC c l = []
  ·
   exact zrH hk c l hA hN
  ·
   exact zsq hk c l hA hN
 ·
  exact zrm hk c l hA
end Go.Av
end
