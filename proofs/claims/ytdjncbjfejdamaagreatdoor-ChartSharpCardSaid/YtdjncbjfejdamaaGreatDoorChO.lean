/- Fields of a map: what neighbours allow, any two points do; no two stations contradict each other; each value lies between the bounds. · ChartTrue. -/
import Derived.Test.YtdjncbjfejdamaaGreatDoorChN
import Derived.Test.YtdjncbjfejdamaaGreatDoorChI
import Derived.Test.YtdjncbjfejdamaaGreatDoorChG
set_option linter.unusedVariables false
set_option linter.unusedSimpArgs false
section
namespace Go.Av
open Go.Proofs

/-- The distance of two points. -/
def dN (W i j : Nat) : Nat := ((i / W - j / W) + (j / W - i / W)) + ((i % W - j % W) + (j % W - i % W))
theorem dist_nat (W i j : Nat) : dist (W : Int) (i : Int) (j : Int) = (dN W i j : Int) := by
  unfold dist dN absd
  rw [← Int.natCast_ediv, ← Int.natCast_ediv, ← Int.natCast_emod, ← Int.natCast_emod]
  generalize i / W = a; generalize j / W = b; generalize i % W = c; generalize j % W = d
  omega
theorem dN_self (W i : Nat) : dN W i i = 0 := by unfold dN; simp
theorem dN_comm (W i j : Nat) : dN W i j = dN W j i := by
  unfold dN
  generalize i / W = a; generalize j / W = b; generalize i % W = c; generalize j % W = d
  omega
theorem dN_tri (W i j k : Nat) : dN W i j ≤ dN W i k + dN W k j := by
  unfold dN
  generalize i / W = a; generalize j / W = b; generalize i % W = c; generalize j % W = d; generalize k / W = e; generalize k % W = f
  omega
theorem dN_zero {W i j : Nat} (h : dN W i j = 0) : i = j := by
  unfold dN at h
  have h1 : i / W = j / W := by
    generalize i / W = a at *; generalize j / W = b at *; generalize i % W = c at *; generalize j % W = d at *
    omega
  have h2 : i % W = j % W := by
    generalize i / W = a at *; generalize j / W = b at *; generalize i % W = c at *; generalize j % W = d at *
    omega
  rw [← Nat.div_add_mod i W, ← Nat.div_add_mod j W, h1, h2]

/-- On the way to another point there is a neighbour. -/
theorem dN_step {W R i j : Nat} (hW : 0 < W) (hi : i < W * R) (hj : j < W * R) (h : dN W i j ≠ 0) : ∃ k, k < W * R ∧ dN W i k = 1 ∧ dN W k j + 1 = dN W i j := by
  have hqi : i / W < R := Nat.div_lt_of_lt_mul hi
  have hqj : j / W < R := Nat.div_lt_of_lt_mul hj
  have hri := Nat.mod_lt i hW
  have hrj := Nat.mod_lt j hW
  have mk : ∀ q r, q < R → r < W → W * q + r < W * R ∧ (W * q + r) / W = q ∧ (W * q + r) % W = r := fun q r hq hr => by
    refine ⟨?_, ?_, ?_⟩
    · have : W * (q + 1) ≤ W * R := Nat.mul_le_mul_left _ hq
      rw [Nat.mul_succ] at this; omega
    · rw [Nat.mul_add_div hW, Nat.div_eq_of_lt hr]; omega
    · rw [Nat.mul_add_mod, Nat.mod_eq_of_lt hr]
  unfold dN at h ⊢
  generalize i / W = qi at *
  generalize j / W = qj at *
  generalize i % W = ri at *
  generalize j % W = rj at *
  by_cases h1 : qi < qj
  · obtain ⟨a1, a2, a3⟩ := mk (qi + 1) ri (by omega) hri
    exact ⟨_, a1, by rw [a2, a3]; omega, by rw [a2, a3]; omega⟩
  · by_cases h2 : qj < qi
    · obtain ⟨a1, a2, a3⟩ := mk (qi - 1) ri (by omega) hri
      exact ⟨_, a1, by rw [a2, a3]; omega, by rw [a2, a3]; omega⟩
    · by_cases h3 : ri < rj
      · obtain ⟨a1, a2, a3⟩ := mk qi (ri + 1) hqi (by omega)
        exact ⟨_, a1, by rw [a2, a3]; omega, by rw [a2, a3]; omega⟩
      · obtain ⟨a1, a2, a3⟩ := mk qi (ri - 1) hqi (by omega)
        exact ⟨_, a1, by rw [a2, a3]; omega, by rw [a2, a3]; omega⟩

theorem lip {V : Nat → Int} {s : Int} {W R : Nat} (hW : 0 < W) (h : ∀ i j, i < W * R → j < W * R → dN W i j = 1 → V i - V j ≤ s) :
    ∀ (d i j : Nat), dN W i j = d → i < W * R → j < W * R → V i - V j ≤ s * (d : Int)
  | 0, i, j, hd, _, _ => by rw [dN_zero hd]; simp
  | d + 1, i, j, hd, hi, hj => by
    obtain ⟨k, k1, k2, k3⟩ := dN_step hW hi hj (by omega)
    have h1 := h i k hi k1 k2
    have h2 := lip hW h d k j (by omega) k1 hj
    have : s * ((d + 1 : Nat) : Int) = s * (d : Int) + s := by push_cast; rw [Int.mul_add]; omega
    omega

/-- A field's values, as a function of points. -/
def vAt (f : Fld) (i : Nat) : Int := f.vals.getD i 0

structure FitsM (m : Mp) (f : Fld) : Prop where
  wide : f.wide = m.wide
  len : (f.vals.length : Int) = m.wide * m.rows
  near : ∀ i j, i < f.vals.length → j < f.vals.length → dist m.wide (i : Int) (j : Int) = 1 → vAt f i - vAt f j ≤ m.slope
  st : ∀ s ∈ m.st, s.lo ≤ vAt f s.pt.toNat ∧ vAt f s.pt.toNat ≤ s.hi

theorem fitsB_iff {m : Mp} {f : Fld} : fitsB m f = true ↔ FitsM m f := by
  unfold fitsB
  simp only [Bool.and_eq_true]
  rw [pairs_iff]
  unfold sizeB stnsB
  simp only [Bool.and_eq_true, beq_iff_eq, List.all_eq_true]
  constructor
  · rintro ⟨⟨h1, h2⟩, h3, h4⟩
    have near : ∀ i j, i < f.vals.length → j < i → dist m.wide (i : Int) (j : Int) = 1 → absd (vAt f i) (vAt f j) ≤ m.slope := fun i j hi hj hd => by
      have := h3 i hi j hj (by rw [h1]; exact hd)
      unfold farN at this
      simpa [vAt] using this
    refine ⟨h1, h2, fun i j hi hj hd => ?_, fun s hs => inB_iff.1 (h4 s hs)⟩
    rcases Nat.lt_trichotomy j i with h | h | h
    · have := near i j hi h hd
      unfold absd at this; omega
    · subst h; rw [dist_self] at hd; omega
    · have := near j i hj h (by rw [dist_comm]; exact hd)
      unfold absd at this; omega
  · rintro ⟨h1, h2, h3, h4⟩
    refine ⟨⟨h1, h2⟩, fun i hi j hj hd => ?_, fun s hs => inB_iff.2 (h4 s hs)⟩
    rw [h1] at hd
    have a := h3 i j hi (by omega) hd
    have b := h3 j i (by omega) hi (by rw [dist_comm]; exact hd)
    unfold farN
    simp only [decide_eq_false_iff_not]
    show ¬ m.slope < absd (vAt f i) (vAt f j)
    unfold absd; omega

theorem okM.W {m : Mp} (hm : okM m) : ∃ W R : Nat, m.wide = (W : Int) ∧ m.rows = (R : Int) ∧ 0 < W ∧ 0 < R ∧ W ≤ 6 ∧ R ≤ 5 := by
  obtain ⟨m1, m2, m3, m4, _⟩ := hm
  exact ⟨m.wide.toNat, m.rows.toNat, by omega, by omega, by omega, by omega, by omega, by omega⟩

theorem FitsM.lip {m : Mp} {f : Fld} (h : FitsM m f) (hm : okM m) {i j : Nat} (hi : i < f.vals.length) (hj : j < f.vals.length) : vAt f i - vAt f j ≤ m.slope * dist m.wide (i : Int) (j : Int) := by
  obtain ⟨W, R, eW, eR, hW, _⟩ := hm.W
  have hlen : f.vals.length = W * R := by have := h.len; rw [eW, eR] at this; exact_mod_cast this
  have hn := h.near
  rw [eW] at hn ⊢
  rw [dist_nat]
  rw [hlen] at hi hj hn
  exact Go.Av.lip hW (fun i j hi hj hd => hn i j hi hj (by rw [dist_nat, hd]; rfl)) _ i j rfl hi hj

theorem FitsM.pt {m : Mp} {f : Fld} (h : FitsM m f) (hm : okM m) {s : Stn} (hs : s ∈ m.st) : ∃ p : Nat, s.pt = (p : Int) ∧ p < f.vals.length := by
  have := hm.2.2.2.2.2.2.2 s hs
  exact ⟨s.pt.toNat, by omega, by have := h.len; omega⟩

/-- No two stations contradict each other. -/
theorem FitsM.clash {m : Mp} {f : Fld} (h : FitsM m f) (hm : okM m) : clashOf m = none := by
  refine firstPair_none fun a ha b hb _ => ?_
  rw [pairB_at ha hb]
  obtain ⟨p, ep, hp⟩ := h.pt hm (List.getElem_mem ha)
  obtain ⟨q, eq, hq⟩ := h.pt hm (List.getElem_mem hb)
  have h1 := h.st _ (List.getElem_mem ha)
  have h2 := h.st _ (List.getElem_mem hb)
  have l1 := h.lip hm hp hq
  have l2 := h.lip hm hq hp
  rw [dist_comm] at l2
  unfold apartB
  rw [ep, eq] at *
  simp only [Int.toNat_natCast] at h1 h2
  simp only [Bool.or_eq_false_iff, decide_eq_false_iff_not]
  omega

/-- Each value lies between the bounds of its point. -/
theorem FitsM.lo {m : Mp} {f : Fld} (h : FitsM m f) (hm : okM m) {i : Nat} (hi : i < f.vals.length) (hv : 0 ≤ vAt f i) : loOf m.wide m.slope (i : Int) m.st ≤ vAt f i :=
  foldl_inv _ (fun b => b ≤ vAt f i) m.st 0 hv fun b s hs hb => by
    obtain ⟨p, ep, hp⟩ := h.pt hm hs
    have h1 := h.st _ hs
    have l1 := h.lip hm hp hi
    rw [dist_comm] at l1
    rw [ep] at *
    simp only [Int.toNat_natCast] at h1
    omega
theorem FitsM.hi {m : Mp} {f : Fld} (h : FitsM m f) (hm : okM m) {i : Nat} (hi : i < f.vals.length) (hv : vAt f i ≤ 99999) : vAt f i ≤ hiOf m.wide m.slope (i : Int) m.st :=
  foldl_inv _ (fun b => vAt f i ≤ b) m.st 99999 hv fun b s hs hb => by
    obtain ⟨p, ep, hp⟩ := h.pt hm hs
    have h1 := h.st _ hs
    have l1 := h.lip hm hi hp
    rw [ep] at *
    simp only [Int.toNat_natCast] at h1
    omega
end Go.Av
end

section
namespace Go.Av
open Go.Proofs
set_option maxRecDepth 100000
set_option maxHeartbeats 1000000
set_option linter.unusedSimpArgs false
variable {G : Glob}

/-- isobarlaw03.ChartTrue -/
theorem f16_triv (hkn : KN G) (m : Mp) (f : Fld) (h : ¬ (m.st.length ≤ 16 ∧ f.vals.length ≤ 40 ∧ mapB m = true ∧ fieldB f = true)) : ACall Tryz.prog G 16 [.agg (eMp m), .agg (eFld f)] (.v (.bool true)) := by
  refine acall_of Tryz.func16 rfl (by kernel_rfl) rfl ?_
  refine ac_seq ?_
  refine ac_region ?_
  refine al_y rfl rfl (y_box rfl (cE_agg rfl)) ?_
  refine al_y rfl rfl (y_box rfl (cE_agg rfl)) ?_
  refine al_y rfl rfl (y_assignV rfl rfl) ?_
  refine al_nil ?_
  refine qt_normal ?_
  refine ac_seq ?_
  refine ac_seq ?_
  refine ac_region ?_
  refine al_y rfl rfl (y_loadN rfl rfl ty24 (by exact Nat.le_of_ble_eq_true rfl)) ?_
  refine al_y rfl rfl (y_callF (av := [_]) rfl ⟨rfl, trivial⟩ (f20 m)) ?_
  refine al_y rfl rfl (y_not rfl rfl) ?_
  refine al_y rfl rfl (y_moveV rfl rfl) ?_
  refine al_maybe rfl rfl rfl (fun hg => y_loadN rfl rfl ty29 (by exact Nat.le_of_ble_eq_true rfl)) ?_
  refine al_maybe rfl rfl rfl (fun hg => y_callF (av := [_]) rfl ⟨((if_pos hg)), trivial⟩ (f26 f)) ?_
  refine al_maybe rfl rfl rfl (fun hg => y_not rfl (if_pos hg)) ?_
  refine al_y rfl rfl (y_or rfl rfl rfl rfl) ?_
  refine al_y rfl rfl (y_moveV rfl rfl) ?_
  refine al_maybe rfl rfl rfl (fun hg => y_loadN rfl rfl ty24 (by exact Nat.le_of_ble_eq_true rfl)) ?_
  refine al_maybe rfl rfl rfl (fun hg => y_callF (av := [_]) rfl ⟨((if_pos hg)), trivial⟩ (f40 m)) ?_
  refine al_maybe rfl rfl rfl (fun hg => y_not rfl (if_pos hg)) ?_
  refine al_y rfl rfl (y_or rfl rfl rfl rfl) ?_
  refine al_y rfl rfl (y_moveV rfl rfl) ?_
  refine al_maybe rfl rfl rfl (fun hg => y_loadN rfl rfl ty29 (by exact Nat.le_of_ble_eq_true rfl)) ?_
  refine al_maybe rfl rfl rfl (fun hg => y_callF (av := [_]) rfl ⟨((if_pos hg)), trivial⟩ (f28 f (by have hg2 := hg; simp at hg2; omega))) ?_
  refine al_maybe rfl rfl rfl (fun hg => y_not rfl (if_pos hg)) ?_
  refine al_y rfl rfl (y_or rfl rfl rfl rfl) ?_
  refine al_nil ?_
  refine qt_normal ?_
  refine ac_cond rfl (fun h0 => ?_) (fun h0 => ?_)
  · skip
    refine ac_seq ?_
    refine ac_region ?_
    refine al_y rfl rfl (y_callF (av := []) rfl trivial hkn) ?_
    refine al_y rfl rfl (y_assignV rfl rfl) ?_
    refine al_nil ?_
    refine qt_normal ?_
    refine ac_ret ?_
    refine qt_ret ?_
    exact ⟨.inr rfl, AVle.refl _⟩
  · skip
    exfalso; simp at h0; apply h; obtain ⟨⟨⟨q1, q2⟩, q3⟩, q4⟩ := h0; exact ⟨by omega, by omega, q3, q4⟩

/-- isobarlaw03.ChartTrue -/
theorem f16_nc (hkn : KN G) (m : Mp) (f : Fld) (hs : m.st.length ≤ 16) (hl : f.vals.length ≤ 40) (hm : okM m) (hf : fieldB f = true) (hq : fitsB m f = false) (p : Nat × Nat) (hc : clashOf m = some p) : ACall Tryz.prog G 16 [.agg (eMp m), .agg (eFld f)] (.v (.bool true)) := by
  have hb2 := (okM_iff m).2 hm
  refine acall_of Tryz.func16 rfl (by kernel_rfl) rfl ?_
  refine ac_seq ?_
  refine ac_region ?_
  refine al_y rfl rfl (y_box rfl (cE_agg rfl)) ?_
  refine al_y rfl rfl (y_box rfl (cE_agg rfl)) ?_
  refine al_y rfl rfl (y_assignV rfl rfl) ?_
  refine al_nil ?_
  refine qt_normal ?_
  refine ac_seq ?_
  refine ac_seq ?_
  refine ac_region ?_
  refine al_y rfl rfl (y_loadN rfl rfl ty24 (by exact Nat.le_of_ble_eq_true rfl)) ?_
  refine al_y rfl rfl (y_callF (av := [_]) rfl ⟨rfl, trivial⟩ (f20 m)) ?_
  refine al_y rfl rfl (y_not rfl rfl) ?_
  refine al_y rfl rfl (y_moveV rfl rfl) ?_
  refine al_maybe rfl rfl rfl (fun hg => y_loadN rfl rfl ty29 (by exact Nat.le_of_ble_eq_true rfl)) ?_
  refine al_maybe rfl rfl rfl (fun hg => y_callF (av := [_]) rfl ⟨((if_pos hg)), trivial⟩ (f26 f)) ?_
  refine al_maybe rfl rfl rfl (fun hg => y_not rfl (if_pos hg)) ?_
  refine al_y rfl rfl (y_or rfl rfl rfl rfl) ?_
  refine al_y rfl rfl (y_moveV rfl rfl) ?_
  refine al_maybe rfl rfl rfl (fun hg => y_loadN rfl rfl ty24 (by exact Nat.le_of_ble_eq_true rfl)) ?_
  refine al_maybe rfl rfl rfl (fun hg => y_callF (av := [_]) rfl ⟨((if_pos hg)), trivial⟩ (f40 m)) ?_
  refine al_maybe rfl rfl rfl (fun hg => y_not rfl (if_pos hg)) ?_
  refine al_y rfl rfl (y_or rfl rfl rfl rfl) ?_
  refine al_y rfl rfl (y_moveV rfl rfl) ?_
  refine al_maybe rfl rfl rfl (fun hg => y_loadN rfl rfl ty29 (by exact Nat.le_of_ble_eq_true rfl)) ?_
  refine al_maybe rfl rfl rfl (fun hg => y_callF (av := [_]) rfl ⟨((if_pos hg)), trivial⟩ (f28 f (by omega))) ?_
  refine al_maybe rfl rfl rfl (fun hg => y_not rfl (if_pos hg)) ?_
  refine al_y rfl rfl (y_or rfl rfl rfl rfl) ?_
  refine al_nil ?_
  refine qt_normal ?_
  refine ac_cond rfl (fun h0 => ?_) (fun h0 => ?_)
  · skip
    exfalso; simp [hb2, hf] at h0; omega
  · skip
    refine ac_skip ?_
    refine qt_normal ?_
    refine ac_seq ?_
    refine ac_region ?_
    refine al_y rfl rfl (y_loadN rfl rfl ty24 (by exact Nat.le_of_ble_eq_true rfl)) ?_
    refine al_y rfl rfl (y_loadN rfl rfl ty29 (by exact Nat.le_of_ble_eq_true rfl)) ?_
    refine al_y rfl rfl (y_callF (av := [_, _]) rfl ⟨rfl, rfl, trivial⟩ (f54_fits m f (by omega) hm hf)) ?_
    refine al_y rfl rfl (y_moveP rfl rfl) ?_
    refine al_y rfl rfl (y_extract rfl rfl rfl) ?_
    refine al_y rfl rfl (y_extract rfl rfl rfl) ?_
    refine al_y rfl rfl (y_assignV rfl rfl) ?_
    refine al_y rfl rfl (y_assignV rfl rfl) ?_
    refine al_nil ?_
    refine qt_normal ?_
    refine ac_seq ?_
    refine ac_region ?_
    refine al_y rfl rfl (y_loadN rfl rfl ty24 (by exact Nat.le_of_ble_eq_true rfl)) ?_
    refine al_y rfl rfl (y_callF (av := [_]) rfl ⟨rfl, trivial⟩ (f50_clash m hm p hc)) ?_
    refine al_y rfl rfl (y_moveP rfl rfl) ?_
    refine al_y rfl rfl (y_extract rfl rfl rfl) ?_
    refine al_y rfl rfl (y_extract rfl rfl rfl) ?_
    refine al_y rfl rfl (y_assignP rfl rfl) ?_
    refine al_y rfl rfl (y_assignV rfl rfl) ?_
    refine al_nil ?_
    refine qt_normal ?_
    refine ac_seq ?_
    refine ac_region ?_
    refine al_y rfl rfl (y_loadN rfl rfl ty24 (by exact Nat.le_of_ble_eq_true rfl)) ?_
    refine al_y rfl rfl (y_callF (av := [_]) rfl ⟨rfl, trivial⟩ (f47_some m hm p hc)) ?_
    refine al_y rfl rfl (y_moveP rfl rfl) ?_
    refine al_y rfl rfl (y_extract rfl rfl rfl) ?_
    refine al_y rfl rfl (y_extract rfl rfl rfl) ?_
    refine al_y rfl rfl (y_extract rfl rfl rfl) ?_
    refine al_y rfl rfl (y_assignV rfl rfl) ?_
    refine al_y rfl rfl (y_assignV rfl rfl) ?_
    refine al_y rfl rfl (y_assignV rfl rfl) ?_
    refine al_nil ?_
    refine qt_normal ?_
    refine ac_seq ?_
    refine ac_seq ?_
    refine ac_region ?_
    refine al_y rfl rfl (y_moveV rfl rfl) ?_
    refine al_y rfl rfl (y_neq rfl rfl rfl) ?_
    refine al_nil ?_
    refine qt_normal ?_
    refine ac_cond rfl (fun h1 => ?_) (fun h1 => ?_)
    · skip
      exfalso; simp at h1
    · skip
      refine ac_skip ?_
      refine qt_normal ?_
      refine ac_seq ?_
      refine ac_seq ?_
      refine ac_region ?_
      refine al_y rfl rfl (y_moveV rfl rfl) ?_
      refine al_y rfl rfl (y_not rfl rfl) ?_
      refine al_nil ?_
      refine qt_normal ?_
      refine ac_cond rfl (fun h2 => ?_) (fun h2 => ?_)
      · skip
        refine ac_seq ?_
        refine ac_region ?_
        refine al_y rfl rfl (y_moveV rfl rfl) ?_
        refine al_y rfl rfl (y_eql rfl rfl rfl) ?_
        refine al_y rfl rfl (y_moveV rfl rfl) ?_
        refine al_maybe rfl rfl rfl (fun hg => y_moveV rfl rfl) ?_
        refine al_maybe (x := .pub (.tup [])) rfl rfl rfl (fun hg => absurd hg (by decide)) ?_
        refine al_y rfl rfl (y_pick rfl rfl (fun h => absurd h (by decide)) (fun _ => rfl)) ?_
        refine al_y rfl rfl (y_moveV rfl rfl) ?_
        refine al_maybe rfl rfl rfl (fun hg => y_moveV rfl rfl) ?_
        refine al_maybe rfl rfl rfl (fun hg => y_eql rfl (rfl) rfl) ?_
        refine al_maybe rfl rfl rfl (fun hg => y_moveV rfl (rfl)) ?_
        refine al_maybe rfl rfl rfl (fun hg => y_moveV rfl rfl) ?_
        refine al_maybe rfl rfl rfl (fun hg => y_eql rfl rfl rfl) ?_
        refine al_maybe rfl rfl rfl (fun hg => y_and rfl rfl rfl rfl) ?_
        refine al_y rfl rfl (y_or rfl rfl rfl rfl) ?_
        refine al_y rfl rfl (y_moveV rfl rfl) ?_
        refine al_maybe rfl rfl rfl (fun hg => y_callF (av := []) rfl trivial hkn) ?_
        refine al_y rfl rfl (y_and rfl rfl rfl rfl) ?_
        refine al_y rfl rfl (y_assignV rfl rfl) ?_
        refine al_nil ?_
        refine qt_normal ?_
        refine ac_ret ?_
        refine qt_ret ?_
        exact ⟨.inr rfl, AVle.of (by simp)⟩
      · skip
        exfalso; simp [hq] at h2

/-- isobarlaw03.ChartTrue -/
theorem f16_nn (hkn : KN G) (m : Mp) (f : Fld) (hs : m.st.length ≤ 16) (hl : f.vals.length ≤ 40) (hm : okM m) (hf : fieldB f = true) (hq : fitsB m f = false) (hc : clashOf m = none) : ACall Tryz.prog G 16 [.agg (eMp m), .agg (eFld f)] (.v (.bool true)) := by
  have hb2 := (okM_iff m).2 hm
  refine acall_of Tryz.func16 rfl (by kernel_rfl) rfl ?_
  refine ac_seq ?_
  refine ac_region ?_
  refine al_y rfl rfl (y_box rfl (cE_agg rfl)) ?_
  refine al_y rfl rfl (y_box rfl (cE_agg rfl)) ?_
  refine al_y rfl rfl (y_assignV rfl rfl) ?_
  refine al_nil ?_
  refine qt_normal ?_
  refine ac_seq ?_
  refine ac_seq ?_
  refine ac_region ?_
  refine al_y rfl rfl (y_loadN rfl rfl ty24 (by exact Nat.le_of_ble_eq_true rfl)) ?_
  refine al_y rfl rfl (y_callF (av := [_]) rfl ⟨rfl, trivial⟩ (f20 m)) ?_
  refine al_y rfl rfl (y_not rfl rfl) ?_
  refine al_y rfl rfl (y_moveV rfl rfl) ?_
  refine al_maybe rfl rfl rfl (fun hg => y_loadN rfl rfl ty29 (by exact Nat.le_of_ble_eq_true rfl)) ?_
  refine al_maybe rfl rfl rfl (fun hg => y_callF (av := [_]) rfl ⟨((if_pos hg)), trivial⟩ (f26 f)) ?_
  refine al_maybe rfl rfl rfl (fun hg => y_not rfl (if_pos hg)) ?_
  refine al_y rfl rfl (y_or rfl rfl rfl rfl) ?_
  refine al_y rfl rfl (y_moveV rfl rfl) ?_
  refine al_maybe rfl rfl rfl (fun hg => y_loadN rfl rfl ty24 (by exact Nat.le_of_ble_eq_true rfl)) ?_
  refine al_maybe rfl rfl rfl (fun hg => y_callF (av := [_]) rfl ⟨((if_pos hg)), trivial⟩ (f40 m)) ?_
  refine al_maybe rfl rfl rfl (fun hg => y_not rfl (if_pos hg)) ?_
  refine al_y rfl rfl (y_or rfl rfl rfl rfl) ?_
  refine al_y rfl rfl (y_moveV rfl rfl) ?_
  refine al_maybe rfl rfl rfl (fun hg => y_loadN rfl rfl ty29 (by exact Nat.le_of_ble_eq_true rfl)) ?_
  refine al_maybe rfl rfl rfl (fun hg => y_callF (av := [_]) rfl ⟨((if_pos hg)), trivial⟩ (f28 f (by omega))) ?_
  refine al_maybe rfl rfl rfl (fun hg => y_not rfl (if_pos hg)) ?_
  refine al_y rfl rfl (y_or rfl rfl rfl rfl) ?_
  refine al_nil ?_
  refine qt_normal ?_
  refine ac_cond rfl (fun h0 => ?_) (fun h0 => ?_)
  · skip
    exfalso; simp [hb2, hf] at h0; omega
  · skip
    refine ac_skip ?_
    refine qt_normal ?_
    refine ac_seq ?_
    refine ac_region ?_
    refine al_y rfl rfl (y_loadN rfl rfl ty24 (by exact Nat.le_of_ble_eq_true rfl)) ?_
    refine al_y rfl rfl (y_loadN rfl rfl ty29 (by exact Nat.le_of_ble_eq_true rfl)) ?_
    refine al_y rfl rfl (y_callF (av := [_, _]) rfl ⟨rfl, rfl, trivial⟩ (f54_fits m f (by omega) hm hf)) ?_
    refine al_y rfl rfl (y_moveP rfl rfl) ?_
    refine al_y rfl rfl (y_extract rfl rfl rfl) ?_
    refine al_y rfl rfl (y_extract rfl rfl rfl) ?_
    refine al_y rfl rfl (y_assignV rfl rfl) ?_
    refine al_y rfl rfl (y_assignV rfl rfl) ?_
    refine al_nil ?_
    refine qt_normal ?_
    refine ac_seq ?_
    refine ac_region ?_
    refine al_y rfl rfl (y_loadN rfl rfl ty24 (by exact Nat.le_of_ble_eq_true rfl)) ?_
    refine al_y rfl rfl (y_callF (av := [_]) rfl ⟨rfl, trivial⟩ (f50_ok m hm hc)) ?_
    refine al_y rfl rfl (y_moveP rfl rfl) ?_
    refine al_y rfl rfl (y_extract rfl rfl rfl) ?_
    refine al_y rfl rfl (y_extract rfl rfl rfl) ?_
    refine al_y rfl rfl (y_assignP rfl rfl) ?_
    refine al_y rfl rfl (y_assignV rfl rfl) ?_
    refine al_nil ?_
    refine qt_normal ?_
    refine ac_seq ?_
    refine ac_region ?_
    refine al_y rfl rfl (y_loadN rfl rfl ty24 (by exact Nat.le_of_ble_eq_true rfl)) ?_
    refine al_y rfl rfl (y_callF (av := [_]) rfl ⟨rfl, trivial⟩ (f47_none m hm hc)) ?_
    refine al_y rfl rfl (y_moveP rfl rfl) ?_
    refine al_y rfl rfl (y_extract rfl rfl rfl) ?_
    refine al_y rfl rfl (y_extract rfl rfl rfl) ?_
    refine al_y rfl rfl (y_extract rfl rfl rfl) ?_
    refine al_y rfl rfl (y_assignV rfl rfl) ?_
    refine al_y rfl rfl (y_assignV rfl rfl) ?_
    refine al_y rfl rfl (y_assignV rfl rfl) ?_
    refine al_nil ?_
    refine qt_normal ?_
    refine ac_seq ?_
    refine ac_seq ?_
    refine ac_region ?_
    refine al_y rfl rfl (y_moveV rfl rfl) ?_
    refine al_y rfl rfl (y_neq rfl rfl rfl) ?_
    refine al_nil ?_
    refine qt_normal ?_
    refine ac_cond rfl (fun h1 => ?_) (fun h1 => ?_)
    · skip
      exfalso; simp at h1
    · skip
      refine ac_skip ?_
      refine qt_normal ?_
      refine ac_seq ?_
      refine ac_seq ?_
      refine ac_region ?_
      refine al_y rfl rfl (y_moveV rfl rfl) ?_
      refine al_y rfl rfl (y_not rfl rfl) ?_
      refine al_nil ?_
      refine qt_normal ?_
      refine ac_cond rfl (fun h2 => ?_) (fun h2 => ?_)
      · skip
        refine ac_seq ?_
        refine ac_region ?_
        refine al_y rfl rfl (y_moveV rfl rfl) ?_
        refine al_y rfl rfl (y_eql rfl rfl rfl) ?_
        refine al_y rfl rfl (y_moveV rfl rfl) ?_
        refine al_maybe rfl rfl rfl (fun hg => y_moveV rfl rfl) ?_
        refine al_maybe rfl rfl rfl (fun hg => y_eql rfl (rfl) rfl) ?_
        refine al_y rfl rfl (y_and rfl rfl rfl rfl) ?_
        refine al_y rfl rfl (y_moveV rfl rfl) ?_
        refine al_maybe rfl rfl rfl (fun hg => y_moveV rfl rfl) ?_
        refine al_maybe (x := .pub (.tup [])) rfl rfl rfl (fun hg => absurd hg (by decide)) ?_
        refine al_maybe rfl rfl rfl (fun hg => y_moveP rfl (rfl)) ?_
        refine al_maybe rfl rfl rfl (fun hg => y_moveV rfl rfl) ?_
        refine al_maybe (x := .pub (.tup [])) rfl rfl rfl (fun hg => absurd hg (by decide)) ?_
        refine al_maybe (x := .pub (.tup [])) rfl rfl rfl (fun hg => absurd hg (by decide)) ?_
        refine al_y rfl rfl (y_pick rfl rfl (fun _ => rfl) (fun h => absurd h (by decide))) ?_
        refine al_y rfl rfl (y_moveV rfl rfl) ?_
        refine al_maybe rfl rfl rfl (fun hg => y_callF (av := []) rfl trivial hkn) ?_
        refine al_y rfl rfl (y_and rfl rfl rfl rfl) ?_
        refine al_y rfl rfl (y_assignV rfl rfl) ?_
        refine al_nil ?_
        refine qt_normal ?_
        refine ac_ret ?_
        refine qt_ret ?_
        exact ⟨.inr rfl, AVle.of (by simp)⟩
      · skip
        exfalso; simp [hq] at h2

/-- isobarlaw03.ChartTrue -/
theorem f16_fits (hkn : KN G) (m : Mp) (f : Fld) (hs : m.st.length ≤ 16) (hl : f.vals.length ≤ 40) (hm : okM m) (hf : fieldB f = true) (hq : fitsB m f = true) : ACall Tryz.prog G 16 [.agg (eMp m), .agg (eFld f)] (.v (.bool true)) := by
  have hb2 := (okM_iff m).2 hm
  have hF := fitsB_iff.1 hq
  have hc := hF.clash hm
  obtain ⟨_, _, hvb⟩ := fld_bd hf
  have hn := npt_bd hm
  have hlb : (bds m).length = f.vals.length := by rw [bds_len]; have := hF.len; omega
  refine acall_of Tryz.func16 rfl (by kernel_rfl) rfl ?_
  refine ac_seq ?_
  refine ac_region ?_
  refine al_y rfl rfl (y_box rfl (cE_agg rfl)) ?_
  refine al_y rfl rfl (y_box rfl (cE_agg rfl)) ?_
  refine al_y rfl rfl (y_assignV rfl rfl) ?_
  refine al_nil ?_
  refine qt_normal ?_
  refine ac_seq ?_
  refine ac_seq ?_
  refine ac_region ?_
  refine al_y rfl rfl (y_loadN rfl rfl ty24 (by exact Nat.le_of_ble_eq_true rfl)) ?_
  refine al_y rfl rfl (y_callF (av := [_]) rfl ⟨rfl, trivial⟩ (f20 m)) ?_
  refine al_y rfl rfl (y_not rfl rfl) ?_
  refine al_y rfl rfl (y_moveV rfl rfl) ?_
  refine al_maybe rfl rfl rfl (fun hg => y_loadN rfl rfl ty29 (by exact Nat.le_of_ble_eq_true rfl)) ?_
  refine al_maybe rfl rfl rfl (fun hg => y_callF (av := [_]) rfl ⟨((if_pos hg)), trivial⟩ (f26 f)) ?_
  refine al_maybe rfl rfl rfl (fun hg => y_not rfl (if_pos hg)) ?_
  refine al_y rfl rfl (y_or rfl rfl rfl rfl) ?_
  refine al_y rfl rfl (y_moveV rfl rfl) ?_
  refine al_maybe rfl rfl rfl (fun hg => y_loadN rfl rfl ty24 (by exact Nat.le_of_ble_eq_true rfl)) ?_
  refine al_maybe rfl rfl rfl (fun hg => y_callF (av := [_]) rfl ⟨((if_pos hg)), trivial⟩ (f40 m)) ?_
  refine al_maybe rfl rfl rfl (fun hg => y_not rfl (if_pos hg)) ?_
  refine al_y rfl rfl (y_or rfl rfl rfl rfl) ?_
  refine al_y rfl rfl (y_moveV rfl rfl) ?_
  refine al_maybe rfl rfl rfl (fun hg => y_loadN rfl rfl ty29 (by exact Nat.le_of_ble_eq_true rfl)) ?_
  refine al_maybe rfl rfl rfl (fun hg => y_callF (av := [_]) rfl ⟨((if_pos hg)), trivial⟩ (f28 f (by omega))) ?_
  refine al_maybe rfl rfl rfl (fun hg => y_not rfl (if_pos hg)) ?_
  refine al_y rfl rfl (y_or rfl rfl rfl rfl) ?_
  refine al_nil ?_
  refine qt_normal ?_
  refine ac_cond rfl (fun h0 => ?_) (fun h0 => ?_)
  · skip
    exfalso; simp [hb2, hf] at h0; omega
  · skip
    refine ac_skip ?_
    refine qt_normal ?_
    refine ac_seq ?_
    refine ac_region ?_
    refine al_y rfl rfl (y_loadN rfl rfl ty24 (by exact Nat.le_of_ble_eq_true rfl)) ?_
    refine al_y rfl rfl (y_loadN rfl rfl ty29 (by exact Nat.le_of_ble_eq_true rfl)) ?_
    refine al_y rfl rfl (y_callF (av := [_, _]) rfl ⟨rfl, rfl, trivial⟩ (f54_fits m f (by omega) hm hf)) ?_
    refine al_y rfl rfl (y_moveP rfl rfl) ?_
    refine al_y rfl rfl (y_extract rfl rfl rfl) ?_
    refine al_y rfl rfl (y_extract rfl rfl rfl) ?_
    refine al_y rfl rfl (y_assignV rfl rfl) ?_
    refine al_y rfl rfl (y_assignV rfl rfl) ?_
    refine al_nil ?_
    refine qt_normal ?_
    refine ac_seq ?_
    refine ac_region ?_
    refine al_y rfl rfl (y_loadN rfl rfl ty24 (by exact Nat.le_of_ble_eq_true rfl)) ?_
    refine al_y rfl rfl (y_callF (av := [_]) rfl ⟨rfl, trivial⟩ (f50_ok m hm hc)) ?_
    refine al_y rfl rfl (y_moveP rfl rfl) ?_
    refine al_y rfl rfl (y_extract rfl rfl rfl) ?_
    refine al_y rfl rfl (y_extract rfl rfl rfl) ?_
    refine al_y rfl rfl (y_assignP rfl rfl) ?_
    refine al_y rfl rfl (y_assignV rfl rfl) ?_
    refine al_nil ?_
    refine qt_normal ?_
    refine ac_seq ?_
    refine ac_region ?_
    refine al_y rfl rfl (y_loadN rfl rfl ty24 (by exact Nat.le_of_ble_eq_true rfl)) ?_
    refine al_y rfl rfl (y_callF (av := [_]) rfl ⟨rfl, trivial⟩ (f47_none m hm hc)) ?_
    refine al_y rfl rfl (y_moveP rfl rfl) ?_
    refine al_y rfl rfl (y_extract rfl rfl rfl) ?_
    refine al_y rfl rfl (y_extract rfl rfl rfl) ?_
    refine al_y rfl rfl (y_extract rfl rfl rfl) ?_
    refine al_y rfl rfl (y_assignV rfl rfl) ?_
    refine al_y rfl rfl (y_assignV rfl rfl) ?_
    refine al_y rfl rfl (y_assignV rfl rfl) ?_
    refine al_nil ?_
    refine qt_normal ?_
    refine ac_seq ?_
    refine ac_seq ?_
    refine ac_region ?_
    refine al_y rfl rfl (y_moveV rfl rfl) ?_
    refine al_y rfl rfl (y_neq rfl rfl rfl) ?_
    refine al_nil ?_
    refine qt_normal ?_
    refine ac_cond rfl (fun h1 => ?_) (fun h1 => ?_)
    · skip
      exfalso; simp at h1
    · skip
      refine ac_skip ?_
      refine qt_normal ?_
      refine ac_seq ?_
      refine ac_seq ?_
      refine ac_region ?_
      refine al_y rfl rfl (y_moveV rfl rfl) ?_
      refine al_y rfl rfl (y_not rfl rfl) ?_
      refine al_nil ?_
      refine qt_normal ?_
      refine ac_cond rfl (fun h2 => ?_) (fun h2 => ?_)
      · skip
        exfalso; simp [hq] at h2
      · skip
        refine ac_skip ?_
        refine qt_normal ?_
        refine ac_seq ?_
        refine ac_seq ?_
        refine ac_region ?_
        refine al_y rfl rfl (y_moveV rfl rfl) ?_
        refine al_y rfl rfl (y_neq rfl rfl rfl) ?_
        refine al_y rfl rfl (y_moveV rfl rfl) ?_
        refine al_maybe rfl rfl rfl (fun hg => y_moveV rfl rfl) ?_
        refine al_maybe rfl rfl rfl (fun hg => y_neq rfl (rfl) rfl) ?_
        refine al_y rfl rfl (y_or rfl rfl rfl rfl) ?_
        refine al_y rfl rfl (y_moveV rfl rfl) ?_
        refine al_maybe rfl rfl rfl (fun hg => y_moveP rfl rfl) ?_
        refine al_maybe rfl rfl rfl (fun hg => y_len rfl rfl (rfl) Tryz.underlying79) ?_
        refine al_maybe rfl rfl rfl (fun hg => y_fieldAddr rfl rfl fld29_1) ?_
        refine al_maybe rfl rfl rfl (fun hg => y_load1 rfl (rfl) rfl ty27) ?_
        refine al_maybe rfl rfl rfl (fun hg => y_len rfl rfl (rfl) Tryz.underlying27) ?_
        refine al_maybe rfl rfl rfl (fun hg => y_neq rfl (rfl) (rfl)) ?_
        refine al_y rfl rfl (y_or rfl rfl rfl rfl) ?_
        refine al_nil ?_
        refine qt_normal ?_
        refine ac_cond rfl (fun h3 => ?_) (fun h3 => ?_)
        · skip
          exfalso; simp [hlb] at h3
        · skip
          refine ac_skip ?_
          refine qt_normal ?_
          refine ac_seq ?_
          refine ac_seq ?_
          refine ac_region ?_
          refine al_y rfl rfl (y_assignV rfl rfl) ?_
          refine al_nil ?_
          refine qt_normal ?_
          refine ac_block ?_
          refine ac_loop (ι := { k : Nat // k ≤ (bds m).length }) (fun k => ⟨Tryz.f16.ntmps, frL [(3, .pub (.ptr (eFld f))), (7, .pub (eSpans (bds m))), (12, I (k.1 : Int))], []⟩) (fun k => (bds m).length - k.1) (⟨0, by omega⟩) ?_ ?_
          · exact weak_frM _ ⟨rfl, rfl, rfl, trivial⟩ (rfl)
          · rintro ⟨k, hk⟩
            dsimp only
            refine ac_seq ?_
            refine ac_seq ?_
            refine ac_region ?_
            refine al_y rfl rfl (y_moveV rfl rfl) ?_
            refine al_y rfl rfl (y_moveP rfl rfl) ?_
            refine al_y rfl rfl (y_len rfl rfl rfl Tryz.underlying79) ?_
            refine al_y rfl rfl (y_lss rfl rfl rfl) ?_
            refine al_nil ?_
            refine qt_normal ?_
            refine ac_cond rfl (fun h4 => ?_) (fun h4 => ?_)
            · skip
              have hlt : k < (bds m).length := by simpa using h4
              have hlf : k < f.vals.length := by omega
              have hv := hvb _ (List.getElem_mem hlf)
              have ev : vAt f k = f.vals[k] := getD_at hlf
              have b1 := hF.lo hm hlf (by rw [ev]; exact hv.1)
              have b2 := hF.hi hm hlf (by rw [ev]; exact hv.2)
              rw [ev] at b1 b2
              have e1 : (bds m)[k].1 = loOf m.wide m.slope (k : Int) m.st := by rw [bds_at hlt]
              have e2 : (bds m)[k].2 = hiOf m.wide m.slope (k : Int) m.st := by rw [bds_at hlt]
              refine ac_skip ?_
              refine qt_normal ?_
              refine ac_seq ?_
              refine ac_block ?_
              refine ac_seq ?_
              refine ac_draw mixed (by kernel_rfl) rfl ?_
              refine aq_y rfl (y_fieldAddr rfl rfl fld29_1) ?_
              refine aq_y rfl (y_load1 rfl rfl rfl ty27) ?_
              refine aq_y rfl (y_moveV rfl rfl) ?_
              refine aq_y rfl (y_indexAddr rfl rfl rfl slc27 (by omega) (int_at hlf) int_len) ?_
              refine aq_y rfl (y_load1 rfl rfl rfl ty3) ?_
              refine aq_y rfl (y_moveP rfl rfl) ?_
              refine aq_y rfl (y_moveV rfl rfl) ?_
              refine aq_y rfl (y_indexAddr rfl rfl rfl slc79 (by omega) (span_at hlt) span_len) ?_
              refine aq_y rfl (y_fieldAddr rfl rfl fld76_0) ?_
              refine aq_y rfl (y_load1 rfl rfl rfl ty3) ?_
              refine aq_y rfl (y_lss rfl rfl rfl) ?_
              refine aq_y rfl (y_moveV rfl rfl) ?_
              refine aq_maybe rfl (fun hg => y_fieldAddr rfl rfl fld29_1) ?_
              refine aq_maybe rfl (fun hg => y_load1 rfl (if_pos hg) rfl ty27) ?_
              refine aq_maybe rfl (fun hg => y_moveV rfl rfl) ?_
              refine aq_maybe rfl (fun hg => y_indexAddr rfl (if_pos hg) (if_pos hg) slc27 (by omega) (int_at hlf) int_len) ?_
              refine aq_maybe rfl (fun hg => y_load1 rfl (if_pos hg) rfl ty3) ?_
              refine aq_maybe rfl (fun hg => y_moveP rfl rfl) ?_
              refine aq_maybe rfl (fun hg => y_moveV rfl rfl) ?_
              refine aq_maybe rfl (fun hg => y_indexAddr rfl (if_pos hg) (if_pos hg) slc79 (by omega) (span_at hlt) span_len) ?_
              refine aq_maybe rfl (fun hg => y_fieldAddr rfl (if_pos hg) fld76_1) ?_
              refine aq_maybe rfl (fun hg => y_load1 rfl (if_pos hg) rfl ty3) ?_
              refine aq_maybe rfl (fun hg => y_gtr rfl (if_pos hg) (if_pos hg)) ?_
              refine aq_y rfl (y_or rfl rfl rfl rfl) ?_
              refine aq_nil ?_
              refine qt_normal ?_
              refine ac_cond rfl (fun h5 => ?_) (fun h5 => ?_)
              · skip
                exfalso; simp at h5; omega
              · skip
                refine ac_skip ?_
                refine qb_normal ?_
                refine qt_normal ?_
                refine ac_region ?_
                refine al_y rfl rfl (y_moveV rfl rfl) ?_
                refine al_y rfl rfl (y_add rfl rfl rfl ⟨(by omega), (by omega)⟩) ?_
                refine al_y rfl rfl (y_assignV rfl rfl) ?_
                refine al_nil ?_
                exact ⟨⟨k + 1, by omega⟩, by dsimp only; omega, weak_frM _ ⟨rfl, rfl, rfl, trivial⟩ (rfl)⟩
            · skip
              refine ac_exit ?_
              refine qt_exit ?_
              refine qt_exit ?_
              refine qb_exit ?_
              refine qt_normal ?_
              refine ac_seq ?_
              refine ac_region ?_
              refine al_y rfl rfl (y_callF (av := []) rfl trivial hkn) ?_
              refine al_y rfl rfl (y_assignV rfl rfl) ?_
              refine al_nil ?_
              refine qt_normal ?_
              refine ac_ret ?_
              exact ⟨.inr rfl, AVle.refl _⟩

theorem f16 (hkn : KN G) (m : Mp) (f : Fld) : ACall Tryz.prog G 16 [.agg (eMp m), .agg (eFld f)] (.v (.bool true)) := by
  by_cases h : m.st.length ≤ 16 ∧ f.vals.length ≤ 40 ∧ mapB m = true ∧ fieldB f = true
  · obtain ⟨h1, h2, h3, h4⟩ := h
    have hm := (okM_iff m).1 h3
    cases hq : fitsB m f with
    | true => exact f16_fits hkn m f h1 h2 hm h4 hq
    | false =>
      cases hc : clashOf m with
      | none => exact f16_nn hkn m f h1 h2 hm h4 hq hc
      | some p => exact f16_nc hkn m f h1 h2 hm h4 hq p hc
  · exact f16_triv hkn m f h
end Go.Av
end
