/- ChartClashes. -/
import Derived.Test.YtdjncbjfejdamaaGreatDoorChE
set_option linter.unusedVariables false
set_option linter.unusedSimpArgs false
section
namespace Go.Av
open Go.Proofs
set_option maxRecDepth 100000
set_option maxHeartbeats 1000000
set_option linter.unusedSimpArgs false
variable {G : Glob}

/-- chart.Clash -/
theorem f47_bad (m : Mp) (hb : mapB m = false) : ACall Tryz.prog G 47 [.agg (eMp m)] (.tup [ei 0, ei 0, ei 2]) := by
  refine acall_of Tryz.func47 rfl (by kernel_rfl) rfl ?_
  refine ac_seq ?_
  refine ac_region ?_
  refine al_y rfl rfl (y_box rfl (cE_agg rfl)) ?_
  refine al_y rfl rfl (y_assignV rfl rfl) ?_
  refine al_y rfl rfl (y_assignV rfl rfl) ?_
  refine al_y rfl rfl (y_assignV rfl rfl) ?_
  refine al_nil ?_
  refine qt_normal ?_
  refine ac_seq ?_
  refine ac_seq ?_
  refine ac_region ?_
  refine al_y rfl rfl (y_loadN rfl rfl ty24 (by exact Nat.le_of_ble_eq_true rfl)) ?_
  refine al_y rfl rfl (y_callF (av := [_]) rfl ⟨rfl, trivial⟩ (f99 m)) ?_
  refine al_y rfl rfl (y_not rfl rfl) ?_
  refine al_nil ?_
  refine qt_normal ?_
  refine ac_cond rfl (fun h0 => ?_) (fun h0 => ?_)
  · skip
    refine ac_seq ?_
    refine ac_region ?_
    refine al_y rfl rfl (y_assignV rfl rfl) ?_
    refine al_y rfl rfl (y_assignV rfl rfl) ?_
    refine al_y rfl rfl (y_assignV rfl rfl) ?_
    refine al_nil ?_
    refine qt_normal ?_
    refine ac_ret ?_
    refine qt_ret ?_
    exact ⟨.inr rfl, ⟨_, rfl, ⟨_, _, rfl, AVle.refl _, ⟨_, _, rfl, AVle.refl _, ⟨_, _, rfl, AVle.refl _, rfl⟩⟩⟩⟩⟩
  · skip
    exfalso; simp [hb] at h0

/-- chart.Clash -/
theorem f47_none (m : Mp) (hm : okM m) (hc : clashOf m = none) : ACall Tryz.prog G 47 [.agg (eMp m)] (.tup [ei 0, ei 0, ei 5]) := by
  have hb2 : mapB m = true := (okM_iff m).2 hm
  refine acall_of Tryz.func47 rfl (by kernel_rfl) rfl ?_
  refine ac_seq ?_
  refine ac_region ?_
  refine al_y rfl rfl (y_box rfl (cE_agg rfl)) ?_
  refine al_y rfl rfl (y_assignV rfl rfl) ?_
  refine al_y rfl rfl (y_assignV rfl rfl) ?_
  refine al_y rfl rfl (y_assignV rfl rfl) ?_
  refine al_nil ?_
  refine qt_normal ?_
  refine ac_seq ?_
  refine ac_seq ?_
  refine ac_region ?_
  refine al_y rfl rfl (y_loadN rfl rfl ty24 (by exact Nat.le_of_ble_eq_true rfl)) ?_
  refine al_y rfl rfl (y_callF (av := [_]) rfl ⟨rfl, trivial⟩ (f99 m)) ?_
  refine al_y rfl rfl (y_not rfl rfl) ?_
  refine al_nil ?_
  refine qt_normal ?_
  refine ac_cond rfl (fun h0 => ?_) (fun h0 => ?_)
  · skip
    exfalso; simp [hb2] at h0
  · skip
    refine ac_skip ?_
    refine qt_normal ?_
    refine ac_seq ?_
    refine ac_region ?_
    refine al_y rfl rfl (y_loadN rfl rfl ty24 (by exact Nat.le_of_ble_eq_true rfl)) ?_
    refine al_y rfl rfl (y_callF (av := [_]) rfl ⟨rfl, trivial⟩ (f100 m)) ?_
    refine al_y rfl rfl (y_callF (av := [_]) rfl ⟨rfl, trivial⟩ (r := .tup [ei 0, ei 0, .v (.bool false)]) (by have h := f101 (G := G) m hm; rw [hc] at h; exact h)) ?_
    refine al_y rfl rfl (y_moveP rfl rfl) ?_
    refine al_y rfl rfl (y_extract rfl rfl rfl) ?_
    refine al_y rfl rfl (y_extract rfl rfl rfl) ?_
    refine al_y rfl rfl (y_extract rfl rfl rfl) ?_
    refine al_y rfl rfl (y_assignV rfl rfl) ?_
    refine al_y rfl rfl (y_assignV rfl rfl) ?_
    refine al_y rfl rfl (y_assignV rfl rfl) ?_
    refine al_nil ?_
    refine qt_normal ?_
    refine ac_seq ?_
    refine ac_seq ?_
    refine ac_region ?_
    refine al_y rfl rfl (y_moveV rfl rfl) ?_
    refine al_y rfl rfl (y_not rfl rfl) ?_
    refine al_nil ?_
    refine qt_normal ?_
    refine ac_cond rfl (fun h1 => ?_) (fun h1 => ?_)
    · skip
      refine ac_seq ?_
      refine ac_region ?_
      refine al_y rfl rfl (y_assignV rfl rfl) ?_
      refine al_y rfl rfl (y_assignV rfl rfl) ?_
      refine al_y rfl rfl (y_assignV rfl rfl) ?_
      refine al_nil ?_
      refine qt_normal ?_
      refine ac_ret ?_
      refine qt_ret ?_
      exact ⟨.inr rfl, ⟨_, rfl, ⟨_, _, rfl, AVle.refl _, ⟨_, _, rfl, AVle.refl _, ⟨_, _, rfl, AVle.refl _, rfl⟩⟩⟩⟩⟩
    · skip
      exfalso; simp at h1

/-- chart.Clash -/
theorem f47_some (m : Mp) (hm : okM m) (p : Nat × Nat) (hc : clashOf m = some p) : ACall Tryz.prog G 47 [.agg (eMp m)] (.tup [ei p.1, ei p.2, ei 0]) := by
  have hb2 : mapB m = true := (okM_iff m).2 hm
  refine acall_of Tryz.func47 rfl (by kernel_rfl) rfl ?_
  refine ac_seq ?_
  refine ac_region ?_
  refine al_y rfl rfl (y_box rfl (cE_agg rfl)) ?_
  refine al_y rfl rfl (y_assignV rfl rfl) ?_
  refine al_y rfl rfl (y_assignV rfl rfl) ?_
  refine al_y rfl rfl (y_assignV rfl rfl) ?_
  refine al_nil ?_
  refine qt_normal ?_
  refine ac_seq ?_
  refine ac_seq ?_
  refine ac_region ?_
  refine al_y rfl rfl (y_loadN rfl rfl ty24 (by exact Nat.le_of_ble_eq_true rfl)) ?_
  refine al_y rfl rfl (y_callF (av := [_]) rfl ⟨rfl, trivial⟩ (f99 m)) ?_
  refine al_y rfl rfl (y_not rfl rfl) ?_
  refine al_nil ?_
  refine qt_normal ?_
  refine ac_cond rfl (fun h0 => ?_) (fun h0 => ?_)
  · skip
    exfalso; simp [hb2] at h0
  · skip
    refine ac_skip ?_
    refine qt_normal ?_
    refine ac_seq ?_
    refine ac_region ?_
    refine al_y rfl rfl (y_loadN rfl rfl ty24 (by exact Nat.le_of_ble_eq_true rfl)) ?_
    refine al_y rfl rfl (y_callF (av := [_]) rfl ⟨rfl, trivial⟩ (f100 m)) ?_
    refine al_y rfl rfl (y_callF (av := [_]) rfl ⟨rfl, trivial⟩ (r := .tup [ei p.1, ei p.2, .v (.bool true)]) (by have h := f101 (G := G) m hm; rw [hc] at h; exact h)) ?_
    refine al_y rfl rfl (y_moveP rfl rfl) ?_
    refine al_y rfl rfl (y_extract rfl rfl rfl) ?_
    refine al_y rfl rfl (y_extract rfl rfl rfl) ?_
    refine al_y rfl rfl (y_extract rfl rfl rfl) ?_
    refine al_y rfl rfl (y_assignV rfl rfl) ?_
    refine al_y rfl rfl (y_assignV rfl rfl) ?_
    refine al_y rfl rfl (y_assignV rfl rfl) ?_
    refine al_nil ?_
    refine qt_normal ?_
    refine ac_seq ?_
    refine ac_seq ?_
    refine ac_region ?_
    refine al_y rfl rfl (y_moveV rfl rfl) ?_
    refine al_y rfl rfl (y_not rfl rfl) ?_
    refine al_nil ?_
    refine qt_normal ?_
    refine ac_cond rfl (fun h1 => ?_) (fun h1 => ?_)
    · skip
      exfalso; simp at h1
    · skip
      refine ac_skip ?_
      refine qt_normal ?_
      refine ac_seq ?_
      refine ac_region ?_
      refine al_y rfl rfl (y_moveV rfl rfl) ?_
      refine al_y rfl rfl (y_moveV rfl rfl) ?_
      refine al_y rfl rfl (y_assignV rfl rfl) ?_
      refine al_y rfl rfl (y_assignV rfl rfl) ?_
      refine al_y rfl rfl (y_assignV rfl rfl) ?_
      refine al_nil ?_
      refine qt_normal ?_
      refine ac_ret ?_
      exact ⟨.inr rfl, ⟨_, rfl, ⟨_, _, rfl, AVle.refl _, ⟨_, _, rfl, AVle.refl _, ⟨_, _, rfl, AVle.refl _, rfl⟩⟩⟩⟩⟩

/-- isobarlaw03.ChartClashes -/
theorem f9_long (hk : KN G) (m : Mp) (hs : 16 < m.st.length) : ACall Tryz.prog G 9 [.agg (eMp m)] (.v (.bool true)) := by
  refine acall_of Tryz.func9 rfl (by kernel_rfl) rfl ?_
  refine ac_seq ?_
  refine ac_region ?_
  refine al_y rfl rfl (y_box rfl (cE_agg rfl)) ?_
  refine al_y rfl rfl (y_assignV rfl rfl) ?_
  refine al_nil ?_
  refine qt_normal ?_
  refine ac_seq ?_
  refine ac_seq ?_
  refine ac_region ?_
  refine al_y rfl rfl (y_loadN rfl rfl ty24 (by exact Nat.le_of_ble_eq_true rfl)) ?_
  refine al_y rfl rfl (y_callF (av := [_]) rfl ⟨rfl, trivial⟩ (f20 m)) ?_
  refine al_y rfl rfl (y_not rfl rfl) ?_
  refine al_nil ?_
  refine qt_normal ?_
  refine ac_cond rfl (fun h0 => ?_) (fun h0 => ?_)
  · skip
    refine ac_seq ?_
    refine ac_region ?_
    refine al_y rfl rfl (y_callF (av := []) rfl trivial hk) ?_
    refine al_y rfl rfl (y_assignV rfl rfl) ?_
    refine al_nil ?_
    refine qt_normal ?_
    refine ac_ret ?_
    refine qt_ret ?_
    exact ⟨.inr rfl, AVle.refl _⟩
  · skip
    exfalso; simp at h0; omega

/-- isobarlaw03.ChartClashes -/
theorem f9_bad (hk : KN G) (m : Mp) (hs : m.st.length ≤ 16) (hb : mapB m = false) : ACall Tryz.prog G 9 [.agg (eMp m)] (.v (.bool true)) := by
  refine acall_of Tryz.func9 rfl (by kernel_rfl) rfl ?_
  refine ac_seq ?_
  refine ac_region ?_
  refine al_y rfl rfl (y_box rfl (cE_agg rfl)) ?_
  refine al_y rfl rfl (y_assignV rfl rfl) ?_
  refine al_nil ?_
  refine qt_normal ?_
  refine ac_seq ?_
  refine ac_seq ?_
  refine ac_region ?_
  refine al_y rfl rfl (y_loadN rfl rfl ty24 (by exact Nat.le_of_ble_eq_true rfl)) ?_
  refine al_y rfl rfl (y_callF (av := [_]) rfl ⟨rfl, trivial⟩ (f20 m)) ?_
  refine al_y rfl rfl (y_not rfl rfl) ?_
  refine al_nil ?_
  refine qt_normal ?_
  refine ac_cond rfl (fun h0 => ?_) (fun h0 => ?_)
  · skip
    exfalso; simp at h0; omega
  · skip
    refine ac_skip ?_
    refine qt_normal ?_
    refine ac_seq ?_
    refine ac_region ?_
    refine al_y rfl rfl (y_loadN rfl rfl ty24 (by exact Nat.le_of_ble_eq_true rfl)) ?_
    refine al_y rfl rfl (y_callF (av := [_]) rfl ⟨rfl, trivial⟩ (f47_bad m hb)) ?_
    refine al_y rfl rfl (y_moveP rfl rfl) ?_
    refine al_y rfl rfl (y_extract rfl rfl rfl) ?_
    refine al_y rfl rfl (y_extract rfl rfl rfl) ?_
    refine al_y rfl rfl (y_extract rfl rfl rfl) ?_
    refine al_y rfl rfl (y_assignV rfl rfl) ?_
    refine al_y rfl rfl (y_assignV rfl rfl) ?_
    refine al_y rfl rfl (y_assignV rfl rfl) ?_
    refine al_nil ?_
    refine qt_normal ?_
    refine ac_seq ?_
    refine ac_seq ?_
    refine ac_region ?_
    refine al_y rfl rfl (y_loadN rfl rfl ty24 (by exact Nat.le_of_ble_eq_true rfl)) ?_
    refine al_y rfl rfl (y_callF (av := [_]) rfl ⟨rfl, trivial⟩ (f40 m)) ?_
    refine al_y rfl rfl (y_not rfl rfl) ?_
    refine al_nil ?_
    refine qt_normal ?_
    refine ac_cond rfl (fun h1 => ?_) (fun h1 => ?_)
    · skip
      refine ac_seq ?_
      refine ac_region ?_
      refine al_y rfl rfl (y_moveV rfl rfl) ?_
      refine al_y rfl rfl (y_eql rfl rfl rfl) ?_
      refine al_y rfl rfl (y_moveV rfl rfl) ?_
      refine al_maybe rfl rfl rfl (fun hg => y_moveV rfl rfl) ?_
      refine al_maybe rfl rfl rfl (fun hg => y_eql rfl (rfl) rfl) ?_
      refine al_y rfl rfl (y_and rfl rfl rfl rfl) ?_
      refine al_y rfl rfl (y_moveV rfl rfl) ?_
      refine al_maybe rfl rfl rfl (fun hg => y_moveV rfl rfl) ?_
      refine al_maybe rfl rfl rfl (fun hg => y_eql rfl (rfl) rfl) ?_
      refine al_y rfl rfl (y_and rfl rfl rfl rfl) ?_
      refine al_y rfl rfl (y_moveV rfl rfl) ?_
      refine al_maybe rfl rfl rfl (fun hg => y_callF (av := []) rfl trivial hk) ?_
      refine al_y rfl rfl (y_and rfl rfl rfl rfl) ?_
      refine al_y rfl rfl (y_assignV rfl rfl) ?_
      refine al_nil ?_
      refine qt_normal ?_
      refine ac_ret ?_
      refine qt_ret ?_
      exact ⟨.inr rfl, AVle.of (by simp)⟩
    · skip
      exfalso; simp [hb] at h1

/-- isobarlaw03.ChartClashes -/
theorem f9_none (hk : KN G) (m : Mp) (hs : m.st.length ≤ 16) (hm : okM m) (hc : clashOf m = none) : ACall Tryz.prog G 9 [.agg (eMp m)] (.v (.bool true)) := by
  have hb2 : mapB m = true := (okM_iff m).2 hm
  refine acall_of Tryz.func9 rfl (by kernel_rfl) rfl ?_
  refine ac_seq ?_
  refine ac_region ?_
  refine al_y rfl rfl (y_box rfl (cE_agg rfl)) ?_
  refine al_y rfl rfl (y_assignV rfl rfl) ?_
  refine al_nil ?_
  refine qt_normal ?_
  refine ac_seq ?_
  refine ac_seq ?_
  refine ac_region ?_
  refine al_y rfl rfl (y_loadN rfl rfl ty24 (by exact Nat.le_of_ble_eq_true rfl)) ?_
  refine al_y rfl rfl (y_callF (av := [_]) rfl ⟨rfl, trivial⟩ (f20 m)) ?_
  refine al_y rfl rfl (y_not rfl rfl) ?_
  refine al_nil ?_
  refine qt_normal ?_
  refine ac_cond rfl (fun h0 => ?_) (fun h0 => ?_)
  · skip
    exfalso; simp at h0; omega
  · skip
    refine ac_skip ?_
    refine qt_normal ?_
    refine ac_seq ?_
    refine ac_region ?_
    refine al_y rfl rfl (y_loadN rfl rfl ty24 (by exact Nat.le_of_ble_eq_true rfl)) ?_
    refine al_y rfl rfl (y_callF (av := [_]) rfl ⟨rfl, trivial⟩ (f47_none m hm hc)) ?_
    refine al_y rfl rfl (y_moveP rfl rfl) ?_
    refine al_y rfl rfl (y_extract rfl rfl rfl) ?_
    refine al_y rfl rfl (y_extract rfl rfl rfl) ?_
    refine al_y rfl rfl (y_extract rfl rfl rfl) ?_
    refine al_y rfl rfl (y_assignV rfl rfl) ?_
    refine al_y rfl rfl (y_assignV rfl rfl) ?_
    refine al_y rfl rfl (y_assignV rfl rfl) ?_
    refine al_nil ?_
    refine qt_normal ?_
    refine ac_seq ?_
    refine ac_seq ?_
    refine ac_region ?_
    refine al_y rfl rfl (y_loadN rfl rfl ty24 (by exact Nat.le_of_ble_eq_true rfl)) ?_
    refine al_y rfl rfl (y_callF (av := [_]) rfl ⟨rfl, trivial⟩ (f40 m)) ?_
    refine al_y rfl rfl (y_not rfl rfl) ?_
    refine al_nil ?_
    refine qt_normal ?_
    refine ac_cond rfl (fun h1 => ?_) (fun h1 => ?_)
    · skip
      exfalso; simp [hb2] at h1
    · skip
      refine ac_skip ?_
      refine qt_normal ?_
      refine ac_seq ?_
      refine ac_region ?_
      refine al_y rfl rfl (y_loadN rfl rfl ty24 (by exact Nat.le_of_ble_eq_true rfl)) ?_
      refine al_y rfl rfl (y_callF (av := [_]) rfl ⟨rfl, trivial⟩ (r := .tup [ei 0, ei 0, .v (.bool false)]) (by have h := f48 (G := G) m hm; rw [hc] at h; exact h)) ?_
      refine al_y rfl rfl (y_moveP rfl rfl) ?_
      refine al_y rfl rfl (y_extract rfl rfl rfl) ?_
      refine al_y rfl rfl (y_extract rfl rfl rfl) ?_
      refine al_y rfl rfl (y_extract rfl rfl rfl) ?_
      refine al_y rfl rfl (y_assignV rfl rfl) ?_
      refine al_y rfl rfl (y_assignV rfl rfl) ?_
      refine al_y rfl rfl (y_assignV rfl rfl) ?_
      refine al_nil ?_
      refine qt_normal ?_
      refine ac_seq ?_
      refine ac_seq ?_
      refine ac_region ?_
      refine al_y rfl rfl (y_moveV rfl rfl) ?_
      refine al_y rfl rfl (y_not rfl rfl) ?_
      refine al_nil ?_
      refine qt_normal ?_
      refine ac_cond rfl (fun h2 => ?_) (fun h2 => ?_)
      · skip
        refine ac_seq ?_
        refine ac_region ?_
        refine al_y rfl rfl (y_moveV rfl rfl) ?_
        refine al_y rfl rfl (y_eql rfl rfl rfl) ?_
        refine al_y rfl rfl (y_moveV rfl rfl) ?_
        refine al_maybe rfl rfl rfl (fun hg => y_moveV rfl rfl) ?_
        refine al_maybe rfl rfl rfl (fun hg => y_eql rfl (rfl) rfl) ?_
        refine al_y rfl rfl (y_and rfl rfl rfl rfl) ?_
        refine al_y rfl rfl (y_moveV rfl rfl) ?_
        refine al_maybe rfl rfl rfl (fun hg => y_moveV rfl rfl) ?_
        refine al_maybe rfl rfl rfl (fun hg => y_eql rfl (rfl) rfl) ?_
        refine al_y rfl rfl (y_and rfl rfl rfl rfl) ?_
        refine al_y rfl rfl (y_moveV rfl rfl) ?_
        refine al_maybe rfl rfl rfl (fun hg => y_callF (av := []) rfl trivial hk) ?_
        refine al_y rfl rfl (y_and rfl rfl rfl rfl) ?_
        refine al_y rfl rfl (y_assignV rfl rfl) ?_
        refine al_nil ?_
        refine qt_normal ?_
        refine ac_ret ?_
        refine qt_ret ?_
        exact ⟨.inr rfl, AVle.of (by simp)⟩
      · skip
        exfalso; simp at h2

/-- isobarlaw03.ChartClashes -/
theorem f9_some (hk : KN G) (m : Mp) (hs : m.st.length ≤ 16) (hm : okM m) (p : Nat × Nat) (hc : clashOf m = some p) : ACall Tryz.prog G 9 [.agg (eMp m)] (.v (.bool true)) := by
  have hb2 : mapB m = true := (okM_iff m).2 hm
  refine acall_of Tryz.func9 rfl (by kernel_rfl) rfl ?_
  refine ac_seq ?_
  refine ac_region ?_
  refine al_y rfl rfl (y_box rfl (cE_agg rfl)) ?_
  refine al_y rfl rfl (y_assignV rfl rfl) ?_
  refine al_nil ?_
  refine qt_normal ?_
  refine ac_seq ?_
  refine ac_seq ?_
  refine ac_region ?_
  refine al_y rfl rfl (y_loadN rfl rfl ty24 (by exact Nat.le_of_ble_eq_true rfl)) ?_
  refine al_y rfl rfl (y_callF (av := [_]) rfl ⟨rfl, trivial⟩ (f20 m)) ?_
  refine al_y rfl rfl (y_not rfl rfl) ?_
  refine al_nil ?_
  refine qt_normal ?_
  refine ac_cond rfl (fun h0 => ?_) (fun h0 => ?_)
  · skip
    exfalso; simp at h0; omega
  · skip
    refine ac_skip ?_
    refine qt_normal ?_
    refine ac_seq ?_
    refine ac_region ?_
    refine al_y rfl rfl (y_loadN rfl rfl ty24 (by exact Nat.le_of_ble_eq_true rfl)) ?_
    refine al_y rfl rfl (y_callF (av := [_]) rfl ⟨rfl, trivial⟩ (f47_some m hm p hc)) ?_
    refine al_y rfl rfl (y_moveP rfl rfl) ?_
    refine al_y rfl rfl (y_extract rfl rfl rfl) ?_
    refine al_y rfl rfl (y_extract rfl rfl rfl) ?_
    refine al_y rfl rfl (y_extract rfl rfl rfl) ?_
    refine al_y rfl rfl (y_assignV rfl rfl) ?_
    refine al_y rfl rfl (y_assignV rfl rfl) ?_
    refine al_y rfl rfl (y_assignV rfl rfl) ?_
    refine al_nil ?_
    refine qt_normal ?_
    refine ac_seq ?_
    refine ac_seq ?_
    refine ac_region ?_
    refine al_y rfl rfl (y_loadN rfl rfl ty24 (by exact Nat.le_of_ble_eq_true rfl)) ?_
    refine al_y rfl rfl (y_callF (av := [_]) rfl ⟨rfl, trivial⟩ (f40 m)) ?_
    refine al_y rfl rfl (y_not rfl rfl) ?_
    refine al_nil ?_
    refine qt_normal ?_
    refine ac_cond rfl (fun h1 => ?_) (fun h1 => ?_)
    · skip
      exfalso; simp [hb2] at h1
    · skip
      refine ac_skip ?_
      refine qt_normal ?_
      refine ac_seq ?_
      refine ac_region ?_
      refine al_y rfl rfl (y_loadN rfl rfl ty24 (by exact Nat.le_of_ble_eq_true rfl)) ?_
      refine al_y rfl rfl (y_callF (av := [_]) rfl ⟨rfl, trivial⟩ (r := .tup [ei p.1, ei p.2, .v (.bool true)]) (by have h := f48 (G := G) m hm; rw [hc] at h; exact h)) ?_
      refine al_y rfl rfl (y_moveP rfl rfl) ?_
      refine al_y rfl rfl (y_extract rfl rfl rfl) ?_
      refine al_y rfl rfl (y_extract rfl rfl rfl) ?_
      refine al_y rfl rfl (y_extract rfl rfl rfl) ?_
      refine al_y rfl rfl (y_assignV rfl rfl) ?_
      refine al_y rfl rfl (y_assignV rfl rfl) ?_
      refine al_y rfl rfl (y_assignV rfl rfl) ?_
      refine al_nil ?_
      refine qt_normal ?_
      refine ac_seq ?_
      refine ac_seq ?_
      refine ac_region ?_
      refine al_y rfl rfl (y_moveV rfl rfl) ?_
      refine al_y rfl rfl (y_not rfl rfl) ?_
      refine al_nil ?_
      refine qt_normal ?_
      refine ac_cond rfl (fun h2 => ?_) (fun h2 => ?_)
      · skip
        exfalso; simp at h2
      · skip
        refine ac_skip ?_
        refine qt_normal ?_
        refine ac_seq ?_
        refine ac_region ?_
        refine al_y rfl rfl (y_moveV rfl rfl) ?_
        refine al_y rfl rfl (y_eql rfl rfl rfl) ?_
        refine al_y rfl rfl (y_moveV rfl rfl) ?_
        refine al_maybe rfl rfl rfl (fun hg => y_moveV rfl rfl) ?_
        refine al_maybe rfl rfl rfl (fun hg => y_moveV rfl rfl) ?_
        refine al_maybe rfl rfl rfl (fun hg => y_eql rfl (rfl) (rfl)) ?_
        refine al_y rfl rfl (y_and rfl rfl rfl rfl) ?_
        refine al_y rfl rfl (y_moveV rfl rfl) ?_
        refine al_maybe rfl rfl rfl (fun hg => y_moveV rfl rfl) ?_
        refine al_maybe rfl rfl rfl (fun hg => y_moveV rfl rfl) ?_
        refine al_maybe rfl rfl rfl (fun hg => y_eql rfl (if_pos hg) (if_pos hg)) ?_
        refine al_y rfl rfl (y_and rfl rfl rfl rfl) ?_
        refine al_y rfl rfl (y_moveV rfl rfl) ?_
        refine al_maybe rfl rfl rfl (fun hg => y_callF (av := []) rfl trivial hk) ?_
        refine al_y rfl rfl (y_and rfl rfl rfl rfl) ?_
        refine al_y rfl rfl (y_assignV rfl rfl) ?_
        refine al_nil ?_
        refine qt_normal ?_
        refine ac_ret ?_
        exact ⟨.inr rfl, AVle.of (by simp)⟩

theorem f9 (hk : KN G) (m : Mp) : ACall Tryz.prog G 9 [.agg (eMp m)] (.v (.bool true)) := by
  rcases Nat.lt_or_ge 16 m.st.length with h | h
  · exact f9_long hk m h
  · rcases mp_cases m with hb | ⟨hm, ⟨p, hc⟩ | hc⟩
    · exact f9_bad hk m h hb
    · exact f9_some hk m h hm p hc
    · exact f9_none hk m h hm hc
end Go.Av
end
