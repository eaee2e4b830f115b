/- ChartSpoilt. -/
import Derived.Test.YtdjncbjfejdamaaGreatDoorStD
import Derived.Test.YtdjncbjfejdamaaGreatDoorStM
import Derived.Test.YtdjncbjfejdamaaGreatDoorPlatG
set_option linter.unusedVariables false
set_option linter.unusedSimpArgs false
section
namespace Go.Av
open Go.Proofs
set_option maxRecDepth 100000
set_option maxHeartbeats 1000000
set_option linter.unusedSimpArgs false
variable {G : Glob}

theorem slc96 : slcIs Tryz.prog 96 1 = true := by kernel_rfl
theorem ty5 : tyIs Tryz.prog 5 false 1 = true := by kernel_rfl
theorem spl_at {s : List UInt8} {p : Nat} (h : p < s.length) : s = s.take p ++ s[p] :: s.drop (p + 1) := by
  rw [List.getElem_cons_drop h, List.take_append_drop]
theorem set_at {s : List UInt8} {p : Nat} (h : p < s.length) (y : UInt8) : s.set p y = s.take p ++ y :: s.drop (p + 1) := by
  rw [List.set_eq_take_append_cons_drop, if_pos h]
def outR (s : List UInt8) (at_ digit : Int) : Bool := decide (at_ < 0) || (decide ((s.length : Int) ≤ at_) || (decide ((s.getD at_.toNat 0).toNat < 48) || (decide (57 < (s.getD at_.toNat 0).toNat) || (((s.getD at_.toNat 0).toNat : Int) - 48 == digit))))
theorem dig_of (d : Int) (h : 0 ≤ d ∧ d ≤ 9) : ∃ y : UInt8, (y.toNat : Int) = 48 + d ∧ isDig y = true := by
  refine ⟨UInt8.ofNat (48 + d.toNat), ?_, ?_⟩
  · rw [UInt8.toNat_ofNat']; omega
  · unfold isDig
    rw [UInt8.toNat_ofNat']
    simp; omega
theorem bytE_set {s : List UInt8} {p : Nat} {y : UInt8} : (s.map bytE).set p (bytE y) = (s.set p y).map bytE := by rw [List.map_set]

/-- isobarlaw03.ChartSpoilt -/
theorem f19_few (hkn : KN GT) (f : Fld) (p d : Int) (hl : ¬ f.vals.length ≤ 40) : ACall Tryz.prog GT 19 [.agg (eFld f), ei p, ei d] (.v (.bool true)) := by
  refine acall_of Tryz.func19 rfl (by kernel_rfl) rfl ?_
  refine ac_seq ?_
  refine ac_region ?_
  refine al_y rfl rfl (y_box rfl (cE_agg rfl)) ?_
  refine al_y rfl rfl (y_assignV rfl rfl) ?_
  refine al_nil ?_
  refine qt_normal ?_
  refine ac_seq ?_
  refine ac_seq ?_
  refine ac_region ?_
  refine al_y rfl rfl (y_loadN rfl rfl ty29 (by exact Nat.le_of_ble_eq_true rfl)) ?_
  refine al_y rfl rfl (y_callF (av := [_]) rfl ⟨rfl, trivial⟩ (f26 f)) ?_
  refine al_y rfl rfl (y_not rfl rfl) ?_
  refine al_y rfl rfl (y_moveV rfl rfl) ?_
  refine al_maybe rfl rfl rfl (fun hg => y_loadN rfl rfl ty29 (by exact Nat.le_of_ble_eq_true rfl)) ?_
  refine al_maybe rfl rfl rfl (fun hg => y_callF (av := [_]) rfl ⟨((if_pos hg)), trivial⟩ (f28 f (by simp at hg; omega))) ?_
  refine al_maybe rfl rfl rfl (fun hg => y_not rfl (if_pos hg)) ?_
  refine al_y rfl rfl (y_or rfl rfl rfl rfl) ?_
  refine al_y rfl rfl (y_moveV rfl rfl) ?_
  refine al_maybe rfl rfl rfl (fun hg => y_moveV rfl rfl) ?_
  refine al_maybe rfl rfl rfl (fun hg => y_lss rfl (if_pos hg) rfl) ?_
  refine al_y rfl rfl (y_or rfl rfl rfl rfl) ?_
  refine al_y rfl rfl (y_moveV rfl rfl) ?_
  refine al_maybe rfl rfl rfl (fun hg => y_moveV rfl rfl) ?_
  refine al_maybe rfl rfl rfl (fun hg => y_gtr rfl (if_pos hg) rfl) ?_
  refine al_y rfl rfl (y_or rfl rfl rfl rfl) ?_
  refine al_nil ?_
  refine qt_normal ?_
  refine ac_cond rfl (fun h0 => ?_) (fun h0 => ?_)
  · skip
    refine ac_seq ?_
    refine ac_region ?_
    refine al_y rfl rfl (y_callF (av := []) rfl trivial hkn) ?_
    refine al_y rfl rfl (y_assignV rfl rfl) ?_
    refine al_nil ?_
    refine qt_normal ?_
    refine ac_ret ?_
    refine qt_ret ?_
    exact ⟨.inr rfl, AVle.refl _⟩
  · skip
    exfalso; simp at h0; omega

/-- isobarlaw03.ChartSpoilt -/
theorem f19_field (hkn : KN GT) (f : Fld) (p d : Int) (hl : f.vals.length ≤ 40) (hf : fieldB f = false) : ACall Tryz.prog GT 19 [.agg (eFld f), ei p, ei d] (.v (.bool true)) := by
  refine acall_of Tryz.func19 rfl (by kernel_rfl) rfl ?_
  refine ac_seq ?_
  refine ac_region ?_
  refine al_y rfl rfl (y_box rfl (cE_agg rfl)) ?_
  refine al_y rfl rfl (y_assignV rfl rfl) ?_
  refine al_nil ?_
  refine qt_normal ?_
  refine ac_seq ?_
  refine ac_seq ?_
  refine ac_region ?_
  refine al_y rfl rfl (y_loadN rfl rfl ty29 (by exact Nat.le_of_ble_eq_true rfl)) ?_
  refine al_y rfl rfl (y_callF (av := [_]) rfl ⟨rfl, trivial⟩ (f26 f)) ?_
  refine al_y rfl rfl (y_not rfl rfl) ?_
  refine al_y rfl rfl (y_moveV rfl rfl) ?_
  refine al_maybe rfl rfl rfl (fun hg => y_loadN rfl rfl ty29 (by exact Nat.le_of_ble_eq_true rfl)) ?_
  refine al_maybe rfl rfl rfl (fun hg => y_callF (av := [_]) rfl ⟨((if_pos hg)), trivial⟩ (f28 f (by omega))) ?_
  refine al_maybe rfl rfl rfl (fun hg => y_not rfl (if_pos hg)) ?_
  refine al_y rfl rfl (y_or rfl rfl rfl rfl) ?_
  refine al_y rfl rfl (y_moveV rfl rfl) ?_
  refine al_maybe rfl rfl rfl (fun hg => y_moveV rfl rfl) ?_
  refine al_maybe rfl rfl rfl (fun hg => y_lss rfl (if_pos hg) rfl) ?_
  refine al_y rfl rfl (y_or rfl rfl rfl rfl) ?_
  refine al_y rfl rfl (y_moveV rfl rfl) ?_
  refine al_maybe rfl rfl rfl (fun hg => y_moveV rfl rfl) ?_
  refine al_maybe rfl rfl rfl (fun hg => y_gtr rfl (if_pos hg) rfl) ?_
  refine al_y rfl rfl (y_or rfl rfl rfl rfl) ?_
  refine al_nil ?_
  refine qt_normal ?_
  refine ac_cond rfl (fun h0 => ?_) (fun h0 => ?_)
  · skip
    refine ac_seq ?_
    refine ac_region ?_
    refine al_y rfl rfl (y_callF (av := []) rfl trivial hkn) ?_
    refine al_y rfl rfl (y_assignV rfl rfl) ?_
    refine al_nil ?_
    refine qt_normal ?_
    refine ac_ret ?_
    refine qt_ret ?_
    exact ⟨.inr rfl, AVle.refl _⟩
  · skip
    exfalso; simp [hf] at h0

/-- isobarlaw03.ChartSpoilt -/
theorem f19_digit (hkn : KN GT) (f : Fld) (p d : Int) (hl : f.vals.length ≤ 40) (hf : fieldB f = true) (hd : d < 0 ∨ 9 < d) : ACall Tryz.prog GT 19 [.agg (eFld f), ei p, ei d] (.v (.bool true)) := by
  refine acall_of Tryz.func19 rfl (by kernel_rfl) rfl ?_
  refine ac_seq ?_
  refine ac_region ?_
  refine al_y rfl rfl (y_box rfl (cE_agg rfl)) ?_
  refine al_y rfl rfl (y_assignV rfl rfl) ?_
  refine al_nil ?_
  refine qt_normal ?_
  refine ac_seq ?_
  refine ac_seq ?_
  refine ac_region ?_
  refine al_y rfl rfl (y_loadN rfl rfl ty29 (by exact Nat.le_of_ble_eq_true rfl)) ?_
  refine al_y rfl rfl (y_callF (av := [_]) rfl ⟨rfl, trivial⟩ (f26 f)) ?_
  refine al_y rfl rfl (y_not rfl rfl) ?_
  refine al_y rfl rfl (y_moveV rfl rfl) ?_
  refine al_maybe rfl rfl rfl (fun hg => y_loadN rfl rfl ty29 (by exact Nat.le_of_ble_eq_true rfl)) ?_
  refine al_maybe rfl rfl rfl (fun hg => y_callF (av := [_]) rfl ⟨((if_pos hg)), trivial⟩ (f28 f (by omega))) ?_
  refine al_maybe rfl rfl rfl (fun hg => y_not rfl (if_pos hg)) ?_
  refine al_y rfl rfl (y_or rfl rfl rfl rfl) ?_
  refine al_y rfl rfl (y_moveV rfl rfl) ?_
  refine al_maybe rfl rfl rfl (fun hg => y_moveV rfl rfl) ?_
  refine al_maybe rfl rfl rfl (fun hg => y_lss rfl (if_pos hg) rfl) ?_
  refine al_y rfl rfl (y_or rfl rfl rfl rfl) ?_
  refine al_y rfl rfl (y_moveV rfl rfl) ?_
  refine al_maybe rfl rfl rfl (fun hg => y_moveV rfl rfl) ?_
  refine al_maybe rfl rfl rfl (fun hg => y_gtr rfl (if_pos hg) rfl) ?_
  refine al_y rfl rfl (y_or rfl rfl rfl rfl) ?_
  refine al_nil ?_
  refine qt_normal ?_
  refine ac_cond rfl (fun h0 => ?_) (fun h0 => ?_)
  · skip
    refine ac_seq ?_
    refine ac_region ?_
    refine al_y rfl rfl (y_callF (av := []) rfl trivial hkn) ?_
    refine al_y rfl rfl (y_assignV rfl rfl) ?_
    refine al_nil ?_
    refine qt_normal ?_
    refine ac_ret ?_
    refine qt_ret ?_
    exact ⟨.inr rfl, AVle.refl _⟩
  · skip
    exfalso; simp [hf] at h0; omega

/-- isobarlaw03.ChartSpoilt -/
theorem f19_main (hkn : KN GT) (f : Fld) (p d : Int) (hl : f.vals.length ≤ 40) (hf : fieldB f = true) (hd : 0 ≤ d ∧ d ≤ 9) : ACall Tryz.prog GT 19 [.agg (eFld f), ei p, ei d] (.v (.bool true)) := by
  have hs : shapeB f = true ∧ valsB f = true := fieldB_iff.1 hf
  have c56 := f56_ok f (by omega) hs.1 hs.2
  have hpl := print_len hf
  refine Exists.elim (show ∃ s, printL f = s from ⟨_, rfl⟩) (fun s hs0 => ?_)
  rw [hs0] at c56 hpl
  refine Exists.elim (show ∃ c : UInt8, s.getD p.toNat 0 = c from ⟨_, rfl⟩) (fun c hc => ?_)
  refine acall_of Tryz.func19 rfl (by kernel_rfl) rfl ?_
  refine ac_seq ?_
  refine ac_region ?_
  refine al_y rfl rfl (y_box rfl (cE_agg rfl)) ?_
  refine al_y rfl rfl (y_assignV rfl rfl) ?_
  refine al_nil ?_
  refine qt_normal ?_
  refine ac_seq ?_
  refine ac_seq ?_
  refine ac_region ?_
  refine al_y rfl rfl (y_loadN rfl rfl ty29 (by exact Nat.le_of_ble_eq_true rfl)) ?_
  refine al_y rfl rfl (y_callF (av := [_]) rfl ⟨rfl, trivial⟩ (f26 f)) ?_
  refine al_y rfl rfl (y_not rfl rfl) ?_
  refine al_y rfl rfl (y_moveV rfl rfl) ?_
  refine al_maybe rfl rfl rfl (fun hg => y_loadN rfl rfl ty29 (by exact Nat.le_of_ble_eq_true rfl)) ?_
  refine al_maybe rfl rfl rfl (fun hg => y_callF (av := [_]) rfl ⟨((if_pos hg)), trivial⟩ (f28 f (by omega))) ?_
  refine al_maybe rfl rfl rfl (fun hg => y_not rfl (if_pos hg)) ?_
  refine al_y rfl rfl (y_or rfl rfl rfl rfl) ?_
  refine al_y rfl rfl (y_moveV rfl rfl) ?_
  refine al_maybe rfl rfl rfl (fun hg => y_moveV rfl rfl) ?_
  refine al_maybe rfl rfl rfl (fun hg => y_lss rfl (if_pos hg) rfl) ?_
  refine al_y rfl rfl (y_or rfl rfl rfl rfl) ?_
  refine al_y rfl rfl (y_moveV rfl rfl) ?_
  refine al_maybe rfl rfl rfl (fun hg => y_moveV rfl rfl) ?_
  refine al_maybe rfl rfl rfl (fun hg => y_gtr rfl (if_pos hg) rfl) ?_
  refine al_y rfl rfl (y_or rfl rfl rfl rfl) ?_
  refine al_nil ?_
  refine qt_normal ?_
  refine ac_cond rfl (fun h0 => ?_) (fun h0 => ?_)
  · skip
    exfalso; simp [hf] at h0; omega
  · skip
    refine ac_skip ?_
    refine qt_normal ?_
    refine ac_seq ?_
    refine ac_region ?_
    refine al_y rfl rfl (y_loadN rfl rfl ty29 (by exact Nat.le_of_ble_eq_true rfl)) ?_
    refine al_y rfl rfl (y_callF (av := [_]) rfl ⟨rfl, trivial⟩ c56) ?_
    refine al_y rfl rfl (y_moveP rfl rfl) ?_
    refine al_y rfl rfl (y_extract rfl rfl rfl) ?_
    refine al_y rfl rfl (y_extract rfl rfl rfl) ?_
    refine al_y rfl rfl (y_assignV rfl rfl) ?_
    refine al_y rfl rfl (y_assignV rfl rfl) ?_
    refine al_nil ?_
    refine qt_normal ?_
    refine ac_seq ?_
    refine ac_seq ?_
    refine ac_region ?_
    refine al_y rfl rfl (y_moveV rfl rfl) ?_
    refine al_y rfl rfl (y_neq rfl rfl rfl) ?_
    refine al_nil ?_
    refine qt_normal ?_
    refine ac_cond rfl (fun h1 => ?_) (fun h1 => ?_)
    · skip
      exfalso; simp at h1
    · skip
      refine ac_skip ?_
      refine qt_normal ?_
      refine ac_seq ?_
      refine ac_seq ?_
      refine ac_region ?_
      refine al_y rfl rfl (y_moveV rfl rfl) ?_
      refine al_y rfl rfl (y_lss rfl rfl rfl) ?_
      refine al_y rfl rfl (y_moveV rfl rfl) ?_
      refine al_maybe rfl rfl rfl (fun hg => y_moveV rfl rfl) ?_
      refine al_maybe rfl rfl rfl (fun hg => y_moveV rfl rfl) ?_
      refine al_maybe rfl rfl rfl (fun hg => y_len_SL rfl (if_pos hg) Tryz.underlying9) ?_
      refine al_maybe rfl rfl rfl (fun hg => y_geq rfl (if_pos hg) (if_pos hg)) ?_
      refine al_y rfl rfl (y_or rfl rfl rfl rfl) ?_
      refine al_y rfl rfl (y_moveV rfl rfl) ?_
      refine al_maybe rfl rfl rfl (fun hg => y_moveV rfl rfl) ?_
      refine al_maybe rfl rfl rfl (fun hg => y_moveV rfl rfl) ?_
      refine al_maybe rfl rfl rfl (fun hg => y_index_SL rfl (if_pos hg) (if_pos hg) Tryz.underlying9 (by simp at hg; omega) (show s[p.toNat]? = some c from by simp at hg; rw [← hc, List.getD_eq_getElem?_getD, List.getElem?_eq_getElem (show p.toNat < s.length by omega)]; rfl)) ?_
      refine al_maybe rfl rfl rfl (fun hg => y_lss rfl (if_pos hg) rfl) ?_
      refine al_y rfl rfl (y_or rfl rfl rfl rfl) ?_
      refine al_y rfl rfl (y_moveV rfl rfl) ?_
      refine al_maybe rfl rfl rfl (fun hg => y_moveV rfl rfl) ?_
      refine al_maybe rfl rfl rfl (fun hg => y_moveV rfl rfl) ?_
      refine al_maybe rfl rfl rfl (fun hg => y_index_SL rfl (if_pos hg) (if_pos hg) Tryz.underlying9 (by simp at hg; omega) (show s[p.toNat]? = some c from by simp at hg; rw [← hc, List.getD_eq_getElem?_getD, List.getElem?_eq_getElem (show p.toNat < s.length by omega)]; rfl)) ?_
      refine al_maybe rfl rfl rfl (fun hg => y_gtr rfl (if_pos hg) rfl) ?_
      refine al_y rfl rfl (y_or rfl rfl rfl rfl) ?_
      refine al_y rfl rfl (y_moveV rfl rfl) ?_
      refine al_maybe rfl rfl rfl (fun hg => y_moveV rfl rfl) ?_
      refine al_maybe rfl rfl rfl (fun hg => y_moveV rfl rfl) ?_
      refine al_maybe rfl rfl rfl (fun hg => y_index_SL rfl (if_pos hg) (if_pos hg) Tryz.underlying9 (by simp at hg; omega) (show s[p.toNat]? = some c from by simp at hg; rw [← hc, List.getD_eq_getElem?_getD, List.getElem?_eq_getElem (show p.toNat < s.length by omega)]; rfl)) ?_
      refine al_maybe rfl rfl rfl (fun hg => y_subK rfl (if_pos hg) rfl (wrap_u8 (by simp at hg; omega))) ?_
      refine al_maybe rfl rfl rfl (fun hg => y_convI rfl (if_pos hg) Tryz.underlying5 Tryz.underlying3 (wrap_64 (by simp at hg; omega))) ?_
      refine al_maybe rfl rfl rfl (fun hg => y_moveV rfl rfl) ?_
      refine al_maybe rfl rfl rfl (fun hg => y_eql rfl (if_pos hg) (if_pos hg)) ?_
      refine al_y rfl rfl (y_or rfl rfl rfl rfl) ?_
      refine al_nil ?_
      refine qt_normal ?_
      refine ac_cond rfl (fun h2 => ?_) (fun h2 => ?_)
      · skip
        refine ac_seq ?_
        refine ac_region ?_
        refine al_y rfl rfl (y_callF (av := []) rfl trivial hkn) ?_
        refine al_y rfl rfl (y_assignV rfl rfl) ?_
        refine al_nil ?_
        refine qt_normal ?_
        refine ac_ret ?_
        refine qt_ret ?_
        exact ⟨.inr rfl, AVle.refl _⟩
      · skip
        have hh : 0 ≤ p ∧ p < (s.length : Int) ∧ 48 ≤ c.toNat ∧ c.toNat ≤ 57 ∧ (c.toNat : Int) - 48 ≠ d := by simp at h2; omega
        have hpn : p.toNat < s.length := by omega
        have hget : c = s[p.toNat] := by rw [← hc, List.getD_eq_getElem?_getD, List.getElem?_eq_getElem hpn]; rfl
        rw [hget] at hh
        refine Exists.elim (dig_of d hd) (fun y hy2 => ?_)
        have hy := hy2.1
        have hyd := hy2.2
        have hxd : isDig s[p.toNat] = true := by unfold isDig; simp; omega
        have hne : s[p.toNat] ≠ y := by intro e; rw [e] at hh; omega
        have hnone : readP (s.set p.toNat y) = none := by rw [set_at hpn]; exact spoilt hf hxd hyd hne (by rw [hs0]; exact spl_at hpn)
        refine ac_skip ?_
        refine qt_normal ?_
        refine ac_seq ?_
        refine ac_region ?_
        refine al_y rfl rfl (y_moveV rfl rfl) ?_
        refine al_m rfl (m_convSB rfl rfl rfl Tryz.underlying9 Tryz.underlying96 Tryz.underlying5 (by omega) (by omega)) ?_
        refine al_y rfl rfl (y_assignS rfl rfl) ?_
        refine al_nil ?_
        refine qt_normal ?_
        refine ac_seq ?_
        refine ac_region ?_
        refine al_y rfl rfl (y_moveS rfl rfl) ?_
        refine al_y rfl rfl (y_moveV rfl rfl) ?_
        refine al_y rfl rfl (y_moveV rfl rfl) ?_
        refine al_y rfl rfl (y_add rfl rfl rfl ⟨(by omega), (by omega)⟩) ?_
        refine al_y rfl rfl (y_convI rfl rfl Tryz.underlying3 Tryz.underlying5 (wrap_u8 (by omega))) ?_
        refine al_y rfl rfl (y_indexAddr_psl rfl rfl rfl rfl (by simp) slc96 (by omega) (by omega) (by intro q hq; obtain ⟨b, _, rfl⟩ := List.mem_map.1 hq; rfl)) ?_
        refine al_m rfl (m_store (r := bytE s[p.toNat]) rfl rfl rfl rfl (by simp) (by simp [hpn]) (cE_v rfl) ty5 (by rfl) (by exact Nat.le_of_ble_eq_true rfl)) ?_
        refine al_nil ?_
        refine qt_normal ?_
        refine ac_seq ?_
        refine ac_region ?_
        refine al_y rfl rfl (y_moveS rfl rfl) ?_
        refine al_y rfl rfl (y_convOB (k := 0) (l := s.set p.toNat y) rfl rfl (show some (PO.row ((s.map bytE).set p.toNat (putCells (bytE s[p.toNat]) 0 [EV.pub (AV.v (.int .u8 (48 + d)))]))) = some (PO.row ((s.set p.toNat y).map bytE)) from (by rw [← bytE_set, ← hy]; rfl)) (by simp) Tryz.underlying96 Tryz.underlying5 Tryz.underlying9) ?_
        refine al_y rfl rfl (y_callF (av := [_]) rfl ⟨rfl, trivial⟩ (f57_none (s.set p.toNat y) (by simpa using hpl) hnone)) ?_
        refine al_y rfl rfl (y_moveP rfl rfl) ?_
        refine al_y rfl rfl (y_extract rfl rfl rfl) ?_
        refine al_y rfl rfl (y_extract rfl rfl rfl) ?_
        refine al_pair  rfl rfl rfl rfl rfl rfl rfl zv29 ty29 rfl (by rfl) (cE_agg rfl) rfl ?_
        refine al_y rfl rfl (y_assignV rfl rfl) ?_
        refine al_nil ?_
        refine qt_normal ?_
        refine ac_seq ?_
        refine ac_region ?_
        refine al_y rfl rfl (y_moveV rfl rfl) ?_
        refine al_y rfl rfl (y_eql rfl rfl rfl) ?_
        refine al_y rfl rfl (y_moveV rfl rfl) ?_
        refine al_maybe rfl rfl rfl (fun hg => y_loadN rfl rfl ty29 (by exact Nat.le_of_ble_eq_true rfl)) ?_
        refine al_maybe rfl rfl rfl (fun hg => y_build (cs := [_, _]) rfl st29 rfl rfl (by rfl) (by simp [ofV])) ?_
        refine al_maybe rfl rfl rfl (fun hg => y_callF (av := [_, _]) rfl ⟨(rfl), (rfl), trivial⟩ (f24z zFld (by simp [zFld]))) ?_
        refine al_y rfl rfl (y_and rfl rfl rfl rfl) ?_
        refine al_y rfl rfl (y_moveV rfl rfl) ?_
        refine al_maybe rfl rfl rfl (fun hg => y_callF (av := []) rfl trivial hkn) ?_
        refine al_y rfl rfl (y_and rfl rfl rfl rfl) ?_
        refine al_y rfl rfl (y_assignV rfl rfl) ?_
        refine al_nil ?_
        refine qt_normal ?_
        refine ac_ret ?_
        exact ⟨.inr rfl, AVle.of (by simp [same_self])⟩

theorem f19 (hkn : KN GT) (f : Fld) (p d : Int) : ACall Tryz.prog GT 19 [.agg (eFld f), ei p, ei d] (.v (.bool true)) := by
  by_cases hl : f.vals.length ≤ 40
  · cases hf : fieldB f with
    | false => exact f19_field hkn f p d hl hf
    | true =>
      by_cases hd : 0 ≤ d ∧ d ≤ 9
      · exact f19_main hkn f p d hl hf hd
      · exact f19_digit hkn f p d hl hf (by omega)
  · exact f19_few hkn f p d hl
end Go.Av
end
