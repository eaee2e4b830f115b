/- The reference: contradictions. · ChartDraws. -/
import Derived.Test.YtdjncbjfejdamaaGreatDoorChD
set_option linter.unusedVariables false
set_option linter.unusedSimpArgs false
section
namespace Go.Av
open Go.Proofs
set_option maxRecDepth 100000
set_option maxHeartbeats 1000000
set_option linter.unusedSimpArgs false
variable {G : Glob}

/-- isobarref03.Clash -/
theorem f48 (m : Mp) (hm : okM m) : ACall Tryz.prog G 48 [.agg (eMp m)] (eClash (clashOf m)) := by
  have hln := hm.2.2.2.2.2.2.1
  generalize hcl : clashOf m = cc
  refine acall_of Tryz.func48 rfl (by kernel_rfl) rfl ?_
  refine ac_seq ?_
  refine ac_region ?_
  refine al_y rfl rfl (y_box rfl (cE_agg rfl)) ?_
  refine al_y rfl rfl (y_assignV rfl rfl) ?_
  refine al_y rfl rfl (y_assignV rfl rfl) ?_
  refine al_y rfl rfl (y_assignV rfl rfl) ?_
  refine al_nil ?_
  refine qt_normal ?_
  refine ac_seq ?_
  refine ac_seq ?_
  refine ac_region ?_
  refine al_y rfl rfl (y_assignV rfl rfl) ?_
  refine al_nil ?_
  refine qt_normal ?_
  refine ac_block ?_
  refine ac_loop (ι := { k : Nat // k ≤ m.st.length ∧ ∀ a < k, ∀ b < m.st.length, a < b → pairB m a b = false }) (fun k => ⟨Tryz.f48.ntmps, frL [(1, .pub (.ptr (eMp m))), (5, I (k.1 : Int))], []⟩) (fun k => m.st.length - k.1) (⟨0, by omega, fun a ha => absurd ha (by omega)⟩) ?_ ?_
  · exact weak_frM _ ⟨rfl, rfl, trivial⟩ (rfl)
  · rintro ⟨k, hk⟩
    dsimp only
    refine ac_seq ?_
    refine ac_seq ?_
    refine ac_region ?_
    refine al_y rfl rfl (y_moveV rfl rfl) ?_
    refine al_y rfl rfl (y_fieldAddr rfl rfl fld24_3) ?_
    refine al_y rfl rfl (y_load1 rfl rfl rfl ty22) ?_
    refine al_y rfl rfl (y_len rfl rfl rfl Tryz.underlying22) ?_
    refine al_y rfl rfl (y_lss rfl rfl rfl) ?_
    refine al_nil ?_
    refine qt_normal ?_
    refine ac_cond rfl (fun h0 => ?_) (fun h0 => ?_)
    · skip
      have hlt : k < m.st.length := by simpa using h0
      refine ac_skip ?_
      refine qt_normal ?_
      refine ac_seq ?_
      refine ac_block ?_
      refine ac_seq ?_
      refine ac_region ?_
      refine al_y rfl rfl (y_moveV rfl rfl) ?_
      refine al_y rfl rfl (y_add rfl rfl rfl ⟨(by omega), (by omega)⟩) ?_
      refine al_y rfl rfl (y_assignV rfl rfl) ?_
      refine al_nil ?_
      refine qt_normal ?_
      refine ac_block ?_
      refine ac_loop (ι := { j : Nat // k < j ∧ j ≤ m.st.length ∧ ∀ b, k < b → b < j → b < m.st.length → pairB m k b = false }) (fun j => ⟨Tryz.f48.ntmps, frL [(1, .pub (.ptr (eMp m))), (5, I (k : Int)), (6, I (j.1 : Int))], []⟩) (fun j => m.st.length - j.1) (⟨k + 1, by omega, by omega, fun b h1 h2 => absurd h1 (by omega)⟩) ?_ ?_
      · exact weak_frM _ ⟨rfl, rfl, rfl, trivial⟩ (rfl)
      · rintro ⟨j, hj⟩
        dsimp only
        refine ac_seq ?_
        refine ac_seq ?_
        refine ac_region ?_
        refine al_y rfl rfl (y_moveV rfl rfl) ?_
        refine al_y rfl rfl (y_fieldAddr rfl rfl fld24_3) ?_
        refine al_y rfl rfl (y_load1 rfl rfl rfl ty22) ?_
        refine al_y rfl rfl (y_len rfl rfl rfl Tryz.underlying22) ?_
        refine al_y rfl rfl (y_lss rfl rfl rfl) ?_
        refine al_nil ?_
        refine qt_normal ?_
        refine ac_cond rfl (fun h1 => ?_) (fun h1 => ?_)
        · skip
          have hjt : j < m.st.length := by simp at h1; omega
          refine ac_skip ?_
          refine qt_normal ?_
          refine ac_seq ?_
          refine ac_block ?_
          refine ac_seq ?_
          refine ac_region ?_
          refine al_y rfl rfl (y_loadN rfl rfl ty24 (by exact Nat.le_of_ble_eq_true rfl)) ?_
          refine al_y rfl rfl (y_moveV rfl rfl) ?_
          refine al_y rfl rfl (y_moveV rfl rfl) ?_
          refine al_y rfl rfl (y_callF (av := [_, _, _]) rfl ⟨rfl, rfl, rfl, trivial⟩ (f102 m hm k j hlt hjt)) ?_
          refine al_nil ?_
          refine qt_normal ?_
          refine ac_cond rfl (fun h2 => ?_) (fun h2 => ?_)
          · skip
            have hyes : pairB m k j = true := h2
            have hc : clashOf m = some (k, j) := firstPair_some hj.1 hjt hyes hk.2 (fun b b1 b2 => hj.2.2 b b1 b2 (by omega))
            refine ac_seq ?_
            refine ac_region ?_
            refine al_y rfl rfl (y_moveV rfl rfl) ?_
            refine al_y rfl rfl (y_moveV rfl rfl) ?_
            refine al_y rfl rfl (y_assignV rfl rfl) ?_
            refine al_y rfl rfl (y_assignV rfl rfl) ?_
            refine al_y rfl rfl (y_assignV rfl rfl) ?_
            refine al_nil ?_
            refine qt_normal ?_
            refine ac_ret ?_
            refine qb_ret ?_
            refine qt_ret ?_
            refine qt_ret ?_
            refine qb_ret ?_
            refine qb_ret ?_
            refine qt_ret ?_
            refine qt_ret ?_
            refine qb_ret ?_
            refine qt_ret ?_
            have hcc := hcl.symm.trans (hc)
            subst hcc
            refine ⟨.inr rfl, ?_⟩
            exact ⟨_, rfl, ⟨_, _, rfl, AVle.refl _, ⟨_, _, rfl, AVle.refl _, ⟨_, _, rfl, AVle.refl _, rfl⟩⟩⟩⟩
          · skip
            have hno : pairB m k j = false := h2
            refine ac_skip ?_
            refine qb_normal ?_
            refine qt_normal ?_
            refine ac_region ?_
            refine al_y rfl rfl (y_moveV rfl rfl) ?_
            refine al_y rfl rfl (y_add rfl rfl rfl ⟨(by omega), (by omega)⟩) ?_
            refine al_y rfl rfl (y_assignV rfl rfl) ?_
            refine al_nil ?_
            exact ⟨⟨j + 1, by omega, by omega, fun b b1 b2 b3 => by
                              by_cases e : b = j
                              · subst e; exact hno
                              · exact hj.2.2 b b1 (by omega) b3⟩, by dsimp only; omega, weak_frM _ ⟨rfl, rfl, rfl, trivial⟩ (rfl)⟩
        · skip
          have hjge : m.st.length ≤ j := by simp at h1; omega
          refine ac_exit ?_
          refine qt_exit ?_
          refine qt_exit ?_
          refine qb_exit ?_
          refine qb_normal ?_
          refine qt_normal ?_
          refine ac_region ?_
          refine al_y rfl rfl (y_moveV rfl rfl) ?_
          refine al_y rfl rfl (y_add rfl rfl rfl ⟨(by omega), (by omega)⟩) ?_
          refine al_y rfl rfl (y_assignV rfl rfl) ?_
          refine al_nil ?_
          exact ⟨⟨k + 1, by omega, fun a ha b hb hab => by
                              by_cases e : a = k
                              · subst e; exact hj.2.2 b hab (by omega) hb
                              · exact hk.2 a (by omega) b hb hab⟩, by dsimp only; omega, weak_frM _ ⟨rfl, rfl, trivial⟩ (rfl)⟩
    · skip
      have hge : m.st.length ≤ k := by simpa using h0
      refine ac_exit ?_
      refine qt_exit ?_
      refine qt_exit ?_
      refine qb_exit ?_
      refine qt_normal ?_
      refine ac_seq ?_
      refine ac_region ?_
      refine al_y rfl rfl (y_assignV rfl rfl) ?_
      refine al_y rfl rfl (y_assignV rfl rfl) ?_
      refine al_y rfl rfl (y_assignV rfl rfl) ?_
      refine al_nil ?_
      refine qt_normal ?_
      refine ac_ret ?_
      have hcc := hcl.symm.trans ((firstPair_none (fun a ha b hb hab => hk.2 a (by omega) b hb hab) : clashOf m = none))
      subst hcc
      refine ⟨.inr rfl, ?_⟩
      exact ⟨_, rfl, ⟨_, _, rfl, AVle.refl _, ⟨_, _, rfl, AVle.refl _, ⟨_, _, rfl, AVle.refl _, rfl⟩⟩⟩⟩

def noneB (m : Mp) : Bool := (clashOf m).isNone

/-- isobarref03.Possible -/
theorem f65_some (m : Mp) (hm : okM m) (p : Nat × Nat) (hc : clashOf m = some p) : ACall Tryz.prog G 65 [.agg (eMp m)] (.v (.bool false)) := by
  refine acall_of Tryz.func65 rfl (by kernel_rfl) rfl ?_
  refine ac_seq ?_
  refine ac_region ?_
  refine al_y rfl rfl (y_box rfl (cE_agg rfl)) ?_
  refine al_y rfl rfl (y_assignV rfl rfl) ?_
  refine al_nil ?_
  refine qt_normal ?_
  refine ac_seq ?_
  refine ac_region ?_
  refine al_y rfl rfl (y_loadN rfl rfl ty24 (by exact Nat.le_of_ble_eq_true rfl)) ?_
  refine al_y rfl rfl (y_callF (av := [_]) rfl ⟨rfl, trivial⟩ (r := .tup [ei p.1, ei p.2, .v (.bool true)]) (by have h := f48 (G := G) m hm; rw [hc] at h; exact h)) ?_
  refine al_y rfl rfl (y_moveP rfl rfl) ?_
  refine al_y rfl rfl (y_extract rfl rfl rfl) ?_
  refine al_y rfl rfl (y_extract rfl rfl rfl) ?_
  refine al_y rfl rfl (y_extract rfl rfl rfl) ?_
  refine al_y rfl rfl (y_assignV rfl rfl) ?_
  refine al_y rfl rfl (y_assignV rfl rfl) ?_
  refine al_y rfl rfl (y_assignV rfl rfl) ?_
  refine al_nil ?_
  refine qt_normal ?_
  refine ac_seq ?_
  refine ac_region ?_
  refine al_y rfl rfl (y_moveV rfl rfl) ?_
  refine al_y rfl rfl (y_not rfl rfl) ?_
  refine al_y rfl rfl (y_assignV rfl rfl) ?_
  refine al_nil ?_
  refine qt_normal ?_
  refine ac_ret ?_
  exact ⟨.inr rfl, AVle.refl _⟩

/-- isobarref03.Possible -/
theorem f65_none (m : Mp) (hm : okM m) (hc : clashOf m = none) : ACall Tryz.prog G 65 [.agg (eMp m)] (.v (.bool true)) := by
  refine acall_of Tryz.func65 rfl (by kernel_rfl) rfl ?_
  refine ac_seq ?_
  refine ac_region ?_
  refine al_y rfl rfl (y_box rfl (cE_agg rfl)) ?_
  refine al_y rfl rfl (y_assignV rfl rfl) ?_
  refine al_nil ?_
  refine qt_normal ?_
  refine ac_seq ?_
  refine ac_region ?_
  refine al_y rfl rfl (y_loadN rfl rfl ty24 (by exact Nat.le_of_ble_eq_true rfl)) ?_
  refine al_y rfl rfl (y_callF (av := [_]) rfl ⟨rfl, trivial⟩ (r := .tup [ei 0, ei 0, .v (.bool false)]) (by have h := f48 (G := G) m hm; rw [hc] at h; exact h)) ?_
  refine al_y rfl rfl (y_moveP rfl rfl) ?_
  refine al_y rfl rfl (y_extract rfl rfl rfl) ?_
  refine al_y rfl rfl (y_extract rfl rfl rfl) ?_
  refine al_y rfl rfl (y_extract rfl rfl rfl) ?_
  refine al_y rfl rfl (y_assignV rfl rfl) ?_
  refine al_y rfl rfl (y_assignV rfl rfl) ?_
  refine al_y rfl rfl (y_assignV rfl rfl) ?_
  refine al_nil ?_
  refine qt_normal ?_
  refine ac_seq ?_
  refine ac_region ?_
  refine al_y rfl rfl (y_moveV rfl rfl) ?_
  refine al_y rfl rfl (y_not rfl rfl) ?_
  refine al_y rfl rfl (y_assignV rfl rfl) ?_
  refine al_nil ?_
  refine qt_normal ?_
  refine ac_ret ?_
  exact ⟨.inr rfl, AVle.refl _⟩

/-- isobarlaw03.asked -/
theorem f23_bad (m : Mp) (fine : Bool) (hb : (mapB m && fine) = false) : ACall Tryz.prog G 23 [.agg (eMp m), .v (.bool fine)] (.v (.int .i64 2)) := by
  refine acall_of Tryz.func23 rfl (by kernel_rfl) rfl ?_
  refine ac_seq ?_
  refine ac_region ?_
  refine al_y rfl rfl (y_box rfl (cE_agg rfl)) ?_
  refine al_y rfl rfl (y_assignV rfl rfl) ?_
  refine al_nil ?_
  refine qt_normal ?_
  refine ac_seq ?_
  refine ac_seq ?_
  refine ac_region ?_
  refine al_y rfl rfl (y_loadN rfl rfl ty24 (by exact Nat.le_of_ble_eq_true rfl)) ?_
  refine al_y rfl rfl (y_callF (av := [_]) rfl ⟨rfl, trivial⟩ (f40 m)) ?_
  refine al_y rfl rfl (y_not rfl rfl) ?_
  refine al_y rfl rfl (y_moveV rfl rfl) ?_
  refine al_maybe rfl rfl rfl (fun hg => y_moveV rfl rfl) ?_
  refine al_maybe rfl rfl rfl (fun hg => y_not rfl (if_pos hg)) ?_
  refine al_y rfl rfl (y_or rfl rfl rfl rfl) ?_
  refine al_nil ?_
  refine qt_normal ?_
  refine ac_cond rfl (fun h0 => ?_) (fun h0 => ?_)
  · skip
    refine ac_seq ?_
    refine ac_region ?_
    refine al_y rfl rfl (y_assignV rfl rfl) ?_
    refine al_nil ?_
    refine qt_normal ?_
    refine ac_ret ?_
    refine qt_ret ?_
    exact ⟨.inr rfl, AVle.refl _⟩
  · skip
    exfalso; revert h0 hb; cases mapB m <;> cases fine <;> simp

/-- isobarlaw03.asked -/
theorem f23_clash (m : Mp) (hm : okM m) (p : Nat × Nat) (hc : clashOf m = some p) : ACall Tryz.prog G 23 [.agg (eMp m), .v (.bool true)] (.v (.int .i64 7)) := by
  have hb2 : mapB m = true := (okM_iff m).2 hm
  refine acall_of Tryz.func23 rfl (by kernel_rfl) rfl ?_
  refine ac_seq ?_
  refine ac_region ?_
  refine al_y rfl rfl (y_box rfl (cE_agg rfl)) ?_
  refine al_y rfl rfl (y_assignV rfl rfl) ?_
  refine al_nil ?_
  refine qt_normal ?_
  refine ac_seq ?_
  refine ac_seq ?_
  refine ac_region ?_
  refine al_y rfl rfl (y_loadN rfl rfl ty24 (by exact Nat.le_of_ble_eq_true rfl)) ?_
  refine al_y rfl rfl (y_callF (av := [_]) rfl ⟨rfl, trivial⟩ (f40 m)) ?_
  refine al_y rfl rfl (y_not rfl rfl) ?_
  refine al_y rfl rfl (y_moveV rfl rfl) ?_
  refine al_maybe rfl rfl rfl (fun hg => y_moveV rfl rfl) ?_
  refine al_maybe rfl rfl rfl (fun hg => y_not rfl (if_pos hg)) ?_
  refine al_y rfl rfl (y_or rfl rfl rfl rfl) ?_
  refine al_nil ?_
  refine qt_normal ?_
  refine ac_cond rfl (fun h0 => ?_) (fun h0 => ?_)
  · skip
    exfalso; simp [hb2] at h0
  · skip
    refine ac_skip ?_
    refine qt_normal ?_
    refine ac_seq ?_
    refine ac_seq ?_
    refine ac_region ?_
    refine al_y rfl rfl (y_loadN rfl rfl ty24 (by exact Nat.le_of_ble_eq_true rfl)) ?_
    refine al_y rfl rfl (y_callF (av := [_]) rfl ⟨rfl, trivial⟩ (f65_some m hm p hc)) ?_
    refine al_y rfl rfl (y_not rfl rfl) ?_
    refine al_nil ?_
    refine qt_normal ?_
    refine ac_cond rfl (fun h1 => ?_) (fun h1 => ?_)
    · skip
      refine ac_seq ?_
      refine ac_region ?_
      refine al_y rfl rfl (y_assignV rfl rfl) ?_
      refine al_nil ?_
      refine qt_normal ?_
      refine ac_ret ?_
      refine qt_ret ?_
      exact ⟨.inr rfl, AVle.refl _⟩
    · skip
      exfalso; simp at h1

/-- isobarlaw03.asked -/
theorem f23_ok (m : Mp) (hm : okM m) (hc : clashOf m = none) : ACall Tryz.prog G 23 [.agg (eMp m), .v (.bool true)] (.v (.int .i64 0)) := by
  have hb2 : mapB m = true := (okM_iff m).2 hm
  refine acall_of Tryz.func23 rfl (by kernel_rfl) rfl ?_
  refine ac_seq ?_
  refine ac_region ?_
  refine al_y rfl rfl (y_box rfl (cE_agg rfl)) ?_
  refine al_y rfl rfl (y_assignV rfl rfl) ?_
  refine al_nil ?_
  refine qt_normal ?_
  refine ac_seq ?_
  refine ac_seq ?_
  refine ac_region ?_
  refine al_y rfl rfl (y_loadN rfl rfl ty24 (by exact Nat.le_of_ble_eq_true rfl)) ?_
  refine al_y rfl rfl (y_callF (av := [_]) rfl ⟨rfl, trivial⟩ (f40 m)) ?_
  refine al_y rfl rfl (y_not rfl rfl) ?_
  refine al_y rfl rfl (y_moveV rfl rfl) ?_
  refine al_maybe rfl rfl rfl (fun hg => y_moveV rfl rfl) ?_
  refine al_maybe rfl rfl rfl (fun hg => y_not rfl (if_pos hg)) ?_
  refine al_y rfl rfl (y_or rfl rfl rfl rfl) ?_
  refine al_nil ?_
  refine qt_normal ?_
  refine ac_cond rfl (fun h0 => ?_) (fun h0 => ?_)
  · skip
    exfalso; simp [hb2] at h0
  · skip
    refine ac_skip ?_
    refine qt_normal ?_
    refine ac_seq ?_
    refine ac_seq ?_
    refine ac_region ?_
    refine al_y rfl rfl (y_loadN rfl rfl ty24 (by exact Nat.le_of_ble_eq_true rfl)) ?_
    refine al_y rfl rfl (y_callF (av := [_]) rfl ⟨rfl, trivial⟩ (f65_none m hm hc)) ?_
    refine al_y rfl rfl (y_not rfl rfl) ?_
    refine al_nil ?_
    refine qt_normal ?_
    refine ac_cond rfl (fun h1 => ?_) (fun h1 => ?_)
    · skip
      exfalso; simp at h1
    · skip
      refine ac_skip ?_
      refine qt_normal ?_
      refine ac_seq ?_
      refine ac_region ?_
      refine al_y rfl rfl (y_assignV rfl rfl) ?_
      refine al_nil ?_
      refine qt_normal ?_
      refine ac_ret ?_
      exact ⟨.inr rfl, AVle.refl _⟩

/-- isobarlaw03.short -/
theorem f20 (m : Mp) : ACall Tryz.prog G 20 [.agg (eMp m)] (.v (.bool (decide ((m.st.length : Int) ≤ 16)))) := by
  refine acall_of Tryz.func20 rfl (by kernel_rfl) rfl ?_
  refine ac_seq ?_
  refine ac_region ?_
  refine al_y rfl rfl (y_box rfl (cE_agg rfl)) ?_
  refine al_y rfl rfl (y_assignV rfl rfl) ?_
  refine al_nil ?_
  refine qt_normal ?_
  refine ac_seq ?_
  refine ac_region ?_
  refine al_y rfl rfl (y_fieldAddr rfl rfl fld24_3) ?_
  refine al_y rfl rfl (y_load1 rfl rfl rfl ty22) ?_
  refine al_y rfl rfl (y_len rfl rfl rfl Tryz.underlying22) ?_
  refine al_y rfl rfl (y_leq rfl rfl rfl) ?_
  refine al_y rfl rfl (y_assignV rfl rfl) ?_
  refine al_nil ?_
  refine qt_normal ?_
  refine ac_ret ?_
  exact ⟨.inr rfl, AVle.of (by simp)⟩
end Go.Av
end

section
namespace Go.Av
open Go.Proofs
set_option maxRecDepth 100000
set_option maxHeartbeats 1000000
set_option linter.unusedSimpArgs false
variable {G : Glob}

def KN (G : Glob) : Prop := ACall Tryz.prog G 21 [] (.v (.bool true))
theorem f24z (f : Fld) (hf : f.vals.length ≤ 1000) : ACall Tryz.prog G 24 [.agg (eFld f), .agg [.v (.int .i64 0), .v (.slice none 0 0)]] (.v (.bool (sameF f zFld))) :=
  (f24 (G := G) f zFld hf (by simp [zFld])).sub ⟨_, _, rfl, AVle.refl _, _, _, rfl, AVle.agg ⟨_, _, rfl, AVle.refl _, _, _, rfl, AVle.nil, rfl⟩, rfl⟩ (AVle.refl _)
theorem sameF_z : sameF zFld zFld = true := by simp [sameF]
theorem sameF_refl (f : Fld) : sameF f f = true := by simp [sameF]
theorem drawF_len {m : Mp} (hm : okM m) : (drawF m).vals.length ≤ 1000 := by
  have := npt_bd hm
  simp [drawF, drawL]; omega

/-- isobarlaw03.ChartDraws -/
theorem f3_long (hk : KN G) (m : Mp) (hs : 16 < m.st.length) : ACall Tryz.prog G 3 [.agg (eMp m)] (.v (.bool true)) := by
  refine acall_of Tryz.func3 rfl (by kernel_rfl) rfl ?_
  refine ac_seq ?_
  refine ac_region ?_
  refine al_y rfl rfl (y_box rfl (cE_agg rfl)) ?_
  refine al_y rfl rfl (y_assignV rfl rfl) ?_
  refine al_nil ?_
  refine qt_normal ?_
  refine ac_seq ?_
  refine ac_seq ?_
  refine ac_region ?_
  refine al_y rfl rfl (y_loadN rfl rfl ty24 (by exact Nat.le_of_ble_eq_true rfl)) ?_
  refine al_y rfl rfl (y_callF (av := [_]) rfl ⟨rfl, trivial⟩ (f20 m)) ?_
  refine al_y rfl rfl (y_not rfl rfl) ?_
  refine al_nil ?_
  refine qt_normal ?_
  refine ac_cond rfl (fun h0 => ?_) (fun h0 => ?_)
  · skip
    refine ac_seq ?_
    refine ac_region ?_
    refine al_y rfl rfl (y_callF (av := []) rfl trivial hk) ?_
    refine al_y rfl rfl (y_assignV rfl rfl) ?_
    refine al_nil ?_
    refine qt_normal ?_
    refine ac_ret ?_
    refine qt_ret ?_
    exact ⟨.inr rfl, AVle.refl _⟩
  · skip
    exfalso; simp at h0; omega

/-- isobarlaw03.ChartDraws -/
theorem f3_bad (hk : KN G) (m : Mp) (hs : m.st.length ≤ 16) (hb : mapB m = false) : ACall Tryz.prog G 3 [.agg (eMp m)] (.v (.bool true)) := by
  refine acall_of Tryz.func3 rfl (by kernel_rfl) rfl ?_
  refine ac_seq ?_
  refine ac_region ?_
  refine al_y rfl rfl (y_box rfl (cE_agg rfl)) ?_
  refine al_y rfl rfl (y_assignV rfl rfl) ?_
  refine al_nil ?_
  refine qt_normal ?_
  refine ac_seq ?_
  refine ac_seq ?_
  refine ac_region ?_
  refine al_y rfl rfl (y_loadN rfl rfl ty24 (by exact Nat.le_of_ble_eq_true rfl)) ?_
  refine al_y rfl rfl (y_callF (av := [_]) rfl ⟨rfl, trivial⟩ (f20 m)) ?_
  refine al_y rfl rfl (y_not rfl rfl) ?_
  refine al_nil ?_
  refine qt_normal ?_
  refine ac_cond rfl (fun h0 => ?_) (fun h0 => ?_)
  · skip
    exfalso; simp at h0; omega
  · skip
    refine ac_skip ?_
    refine qt_normal ?_
    refine ac_seq ?_
    refine ac_region ?_
    refine al_y rfl rfl (y_loadN rfl rfl ty24 (by exact Nat.le_of_ble_eq_true rfl)) ?_
    refine al_y rfl rfl (y_callF (av := [_]) rfl ⟨rfl, trivial⟩ (f22_bad m hb)) ?_
    refine al_y rfl rfl (y_moveP rfl rfl) ?_
    refine al_y rfl rfl (y_extract rfl rfl rfl) ?_
    refine al_y rfl rfl (y_extract rfl rfl rfl) ?_
    refine al_pair  rfl rfl rfl rfl rfl rfl rfl zv29 ty29 rfl (by rfl) (cE_agg rfl) rfl ?_
    refine al_y rfl rfl (y_assignV rfl rfl) ?_
    refine al_nil ?_
    refine qt_normal ?_
    refine ac_seq ?_
    refine ac_seq ?_
    refine ac_region ?_
    refine al_y rfl rfl (y_loadN rfl rfl ty24 (by exact Nat.le_of_ble_eq_true rfl)) ?_
    refine al_y rfl rfl (y_callF (av := [_, _]) rfl ⟨rfl, rfl, trivial⟩ (f23_bad m true (by rw [hb]; rfl))) ?_
    refine al_y rfl rfl (y_assignV rfl rfl) ?_
    refine al_nil ?_
    refine qt_normal ?_
    refine ac_seq ?_
    refine ac_region ?_
    refine al_y rfl rfl (y_moveV rfl rfl) ?_
    refine al_y rfl rfl (y_neq rfl rfl rfl) ?_
    refine al_nil ?_
    refine qt_normal ?_
    refine ac_cond rfl (fun h1 => ?_) (fun h1 => ?_)
    · skip
      refine ac_seq ?_
      refine ac_region ?_
      refine al_y rfl rfl (y_moveV rfl rfl) ?_
      refine al_y rfl rfl (y_moveV rfl rfl) ?_
      refine al_y rfl rfl (y_eql rfl rfl rfl) ?_
      refine al_y rfl rfl (y_moveV rfl rfl) ?_
      refine al_maybe rfl rfl rfl (fun hg => y_loadN rfl rfl ty29 (by exact Nat.le_of_ble_eq_true rfl)) ?_
      refine al_maybe rfl rfl rfl (fun hg => y_build (cs := [_, _]) rfl st29 rfl rfl (by rfl) (by simp [ofV])) ?_
      refine al_maybe rfl rfl rfl (fun hg => y_callF (av := [_, _]) rfl ⟨(rfl), (rfl), trivial⟩ (f24z zFld (by simp [zFld]))) ?_
      refine al_y rfl rfl (y_and rfl rfl rfl rfl) ?_
      refine al_y rfl rfl (y_moveV rfl rfl) ?_
      refine al_maybe rfl rfl rfl (fun hg => y_callF (av := []) rfl trivial hk) ?_
      refine al_y rfl rfl (y_and rfl rfl rfl rfl) ?_
      refine al_y rfl rfl (y_assignV rfl rfl) ?_
      refine al_nil ?_
      refine qt_normal ?_
      refine ac_ret ?_
      refine qt_ret ?_
      exact ⟨.inr rfl, AVle.of (by simp [sameF_z])⟩
    · skip
      exfalso; simp at h1

/-- isobarlaw03.ChartDraws -/
theorem f3_clash (hk : KN G) (m : Mp) (hs : m.st.length ≤ 16) (hm : okM m) (p : Nat × Nat) (hc : clashOf m = some p) : ACall Tryz.prog G 3 [.agg (eMp m)] (.v (.bool true)) := by
  refine acall_of Tryz.func3 rfl (by kernel_rfl) rfl ?_
  refine ac_seq ?_
  refine ac_region ?_
  refine al_y rfl rfl (y_box rfl (cE_agg rfl)) ?_
  refine al_y rfl rfl (y_assignV rfl rfl) ?_
  refine al_nil ?_
  refine qt_normal ?_
  refine ac_seq ?_
  refine ac_seq ?_
  refine ac_region ?_
  refine al_y rfl rfl (y_loadN rfl rfl ty24 (by exact Nat.le_of_ble_eq_true rfl)) ?_
  refine al_y rfl rfl (y_callF (av := [_]) rfl ⟨rfl, trivial⟩ (f20 m)) ?_
  refine al_y rfl rfl (y_not rfl rfl) ?_
  refine al_nil ?_
  refine qt_normal ?_
  refine ac_cond rfl (fun h0 => ?_) (fun h0 => ?_)
  · skip
    exfalso; simp at h0; omega
  · skip
    refine ac_skip ?_
    refine qt_normal ?_
    refine ac_seq ?_
    refine ac_region ?_
    refine al_y rfl rfl (y_loadN rfl rfl ty24 (by exact Nat.le_of_ble_eq_true rfl)) ?_
    refine al_y rfl rfl (y_callF (av := [_]) rfl ⟨rfl, trivial⟩ (f22_clash m hm p hc)) ?_
    refine al_y rfl rfl (y_moveP rfl rfl) ?_
    refine al_y rfl rfl (y_extract rfl rfl rfl) ?_
    refine al_y rfl rfl (y_extract rfl rfl rfl) ?_
    refine al_pair  rfl rfl rfl rfl rfl rfl rfl zv29 ty29 rfl (by rfl) (cE_agg rfl) rfl ?_
    refine al_y rfl rfl (y_assignV rfl rfl) ?_
    refine al_nil ?_
    refine qt_normal ?_
    refine ac_seq ?_
    refine ac_seq ?_
    refine ac_region ?_
    refine al_y rfl rfl (y_loadN rfl rfl ty24 (by exact Nat.le_of_ble_eq_true rfl)) ?_
    refine al_y rfl rfl (y_callF (av := [_, _]) rfl ⟨rfl, rfl, trivial⟩ (f23_clash m hm p hc)) ?_
    refine al_y rfl rfl (y_assignV rfl rfl) ?_
    refine al_nil ?_
    refine qt_normal ?_
    refine ac_seq ?_
    refine ac_region ?_
    refine al_y rfl rfl (y_moveV rfl rfl) ?_
    refine al_y rfl rfl (y_neq rfl rfl rfl) ?_
    refine al_nil ?_
    refine qt_normal ?_
    refine ac_cond rfl (fun h1 => ?_) (fun h1 => ?_)
    · skip
      refine ac_seq ?_
      refine ac_region ?_
      refine al_y rfl rfl (y_moveV rfl rfl) ?_
      refine al_y rfl rfl (y_moveV rfl rfl) ?_
      refine al_y rfl rfl (y_eql rfl rfl rfl) ?_
      refine al_y rfl rfl (y_moveV rfl rfl) ?_
      refine al_maybe rfl rfl rfl (fun hg => y_loadN rfl rfl ty29 (by exact Nat.le_of_ble_eq_true rfl)) ?_
      refine al_maybe rfl rfl rfl (fun hg => y_build (cs := [_, _]) rfl st29 rfl rfl (by rfl) (by simp [ofV])) ?_
      refine al_maybe rfl rfl rfl (fun hg => y_callF (av := [_, _]) rfl ⟨(rfl), (rfl), trivial⟩ (f24z zFld (by simp [zFld]))) ?_
      refine al_y rfl rfl (y_and rfl rfl rfl rfl) ?_
      refine al_y rfl rfl (y_moveV rfl rfl) ?_
      refine al_maybe rfl rfl rfl (fun hg => y_callF (av := []) rfl trivial hk) ?_
      refine al_y rfl rfl (y_and rfl rfl rfl rfl) ?_
      refine al_y rfl rfl (y_assignV rfl rfl) ?_
      refine al_nil ?_
      refine qt_normal ?_
      refine ac_ret ?_
      refine qt_ret ?_
      exact ⟨.inr rfl, AVle.of (by simp [sameF_z])⟩
    · skip
      exfalso; simp at h1

/-- isobarlaw03.ChartDraws -/
theorem f3_ok (hk : KN G) (m : Mp) (hs : m.st.length ≤ 16) (hm : okM m) (hc : clashOf m = none) : ACall Tryz.prog G 3 [.agg (eMp m)] (.v (.bool true)) := by
  refine acall_of Tryz.func3 rfl (by kernel_rfl) rfl ?_
  refine ac_seq ?_
  refine ac_region ?_
  refine al_y rfl rfl (y_box rfl (cE_agg rfl)) ?_
  refine al_y rfl rfl (y_assignV rfl rfl) ?_
  refine al_nil ?_
  refine qt_normal ?_
  refine ac_seq ?_
  refine ac_seq ?_
  refine ac_region ?_
  refine al_y rfl rfl (y_loadN rfl rfl ty24 (by exact Nat.le_of_ble_eq_true rfl)) ?_
  refine al_y rfl rfl (y_callF (av := [_]) rfl ⟨rfl, trivial⟩ (f20 m)) ?_
  refine al_y rfl rfl (y_not rfl rfl) ?_
  refine al_nil ?_
  refine qt_normal ?_
  refine ac_cond rfl (fun h0 => ?_) (fun h0 => ?_)
  · skip
    exfalso; simp at h0; omega
  · skip
    refine ac_skip ?_
    refine qt_normal ?_
    refine ac_seq ?_
    refine ac_region ?_
    refine al_y rfl rfl (y_loadN rfl rfl ty24 (by exact Nat.le_of_ble_eq_true rfl)) ?_
    refine al_y rfl rfl (y_callF (av := [_]) rfl ⟨rfl, trivial⟩ (f22_ok m hm hc)) ?_
    refine al_y rfl rfl (y_moveP rfl rfl) ?_
    refine al_y rfl rfl (y_extract rfl rfl rfl) ?_
    refine al_y rfl rfl (y_extract rfl rfl rfl) ?_
    refine al_pair  rfl rfl rfl rfl rfl rfl rfl zv29 ty29 rfl (by rfl) (cE_agg rfl) rfl ?_
    refine al_y rfl rfl (y_assignV rfl rfl) ?_
    refine al_nil ?_
    refine qt_normal ?_
    refine ac_seq ?_
    refine ac_seq ?_
    refine ac_region ?_
    refine al_y rfl rfl (y_loadN rfl rfl ty24 (by exact Nat.le_of_ble_eq_true rfl)) ?_
    refine al_y rfl rfl (y_callF (av := [_, _]) rfl ⟨rfl, rfl, trivial⟩ (f23_ok m hm hc)) ?_
    refine al_y rfl rfl (y_assignV rfl rfl) ?_
    refine al_nil ?_
    refine qt_normal ?_
    refine ac_seq ?_
    refine ac_region ?_
    refine al_y rfl rfl (y_moveV rfl rfl) ?_
    refine al_y rfl rfl (y_neq rfl rfl rfl) ?_
    refine al_nil ?_
    refine qt_normal ?_
    refine ac_cond rfl (fun h1 => ?_) (fun h1 => ?_)
    · skip
      exfalso; simp at h1
    · skip
      refine ac_skip ?_
      refine qt_normal ?_
      refine ac_seq ?_
      refine ac_draw mixed (by kernel_rfl) rfl ?_
      refine aq_y rfl (y_moveV rfl rfl) ?_
      refine aq_y rfl (y_eql rfl rfl rfl) ?_
      refine aq_y rfl (y_moveV rfl rfl) ?_
      refine aq_maybe rfl (fun hg => y_loadN rfl rfl ty29 (by exact Nat.le_of_ble_eq_true rfl)) ?_
      refine aq_maybe rfl (fun hg => y_loadN rfl rfl ty24 (by exact Nat.le_of_ble_eq_true rfl)) ?_
      refine aq_maybe rfl (fun hg => y_callF (av := [_]) rfl ⟨(rfl), trivial⟩ (f25 m hm)) ?_
      refine aq_maybe rfl (fun hg => y_callF (av := [_, _]) rfl ⟨(rfl), (rfl), trivial⟩ (f24 (drawF m) (drawF m) (drawF_len hm) (drawF_len hm))) ?_
      refine aq_y rfl (y_and rfl rfl rfl rfl) ?_
      refine aq_y rfl (y_moveV rfl rfl) ?_
      refine aq_maybe rfl (fun hg => y_callF (av := []) rfl trivial hk) ?_
      refine aq_y rfl (y_and rfl rfl rfl rfl) ?_
      refine aq_y rfl (y_assignV rfl rfl) ?_
      refine aq_nil ?_
      refine qt_normal ?_
      refine ac_ret ?_
      exact ⟨.inr rfl, AVle.of (by simp [sameF_refl])⟩

theorem mp_cases (m : Mp) : mapB m = false ∨ (okM m ∧ ((∃ p, clashOf m = some p) ∨ clashOf m = none)) := by
  cases hb : mapB m with
  | false => exact .inl rfl
  | true =>
    refine .inr ⟨(okM_iff m).1 hb, ?_⟩
    cases hc : clashOf m with
    | none => exact .inr rfl
    | some p => exact .inl ⟨p, rfl⟩
theorem f3 (hk : KN G) (m : Mp) : ACall Tryz.prog G 3 [.agg (eMp m)] (.v (.bool true)) := by
  rcases Nat.lt_or_ge 16 m.st.length with h | h
  · exact f3_long hk m h
  · rcases mp_cases m with hb | ⟨hm, ⟨p, hc⟩ | hc⟩
    · exact f3_bad hk m h hb
    · exact f3_clash hk m h hm p hc
    · exact f3_ok hk m h hm hc
end Go.Av
end
