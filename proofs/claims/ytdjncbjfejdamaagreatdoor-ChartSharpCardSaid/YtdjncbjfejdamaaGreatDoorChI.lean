/- Maps with just two stations. · ChartShown. -/
import Derived.Test.YtdjncbjfejdamaaGreatDoorChH
set_option linter.unusedVariables false
set_option linter.unusedSimpArgs false
section
namespace Go.Av
open Go.Proofs
set_option maxRecDepth 100000
set_option maxHeartbeats 1000000
set_option linter.unusedSimpArgs false
variable {G : Glob}

/-- A map with just two stations. -/
def onlyS (m : Mp) (a b : Stn) : Mp := { m with st := [a, b] }
theorem okM_only {m : Mp} (hm : okM m) {a b : Stn} (ha : a ∈ m.st) (hb : b ∈ m.st) : okM (onlyS m a b) := by
  obtain ⟨m1, m2, m3, m4, m5, m6, m7, m8⟩ := hm
  refine ⟨m1, m2, m3, m4, m5, m6, by simp [onlyS], fun s hs => ?_⟩
  simp only [onlyS, List.mem_cons, List.not_mem_nil, or_false] at hs
  rcases hs with rfl | rfl
  · exact m8 s ha
  · exact m8 s hb
theorem only_pair (m : Mp) (a b : Stn) : pairB (onlyS m a b) 0 1 = apartB m a b := rfl
theorem only_some {m : Mp} {a b : Stn} (h : apartB m a b = true) : clashOf (onlyS m a b) = some (0, 1) :=
  firstPair_some (by omega) (by simp [onlyS]) ((only_pair m a b).trans h) (fun a ha => by omega) (fun b hb hb2 => by omega)
theorem only_none {m : Mp} {a b : Stn} (h : apartB m a b = false) : clashOf (onlyS m a b) = none :=
  firstPair_none fun x hx y hy hxy => by
    have hy : y < 2 := hy
    have e1 : x = 0 := by omega
    have e2 : y = 1 := by omega
    subst e1; subst e2
    exact (only_pair m a b).trans h
theorem least {Q : Nat → Prop} (n : Nat) : Q n → ∃ x, Q x ∧ ∀ y, y < x → ¬ Q y := Nat.strongRecOn n fun n ih hn => by
  by_cases h : ∃ y, y < n ∧ Q y
  · obtain ⟨y, hy, hq⟩ := h; exact ih y hy hq
  · exact ⟨n, hn, fun y hy hq => h ⟨y, hy, hq⟩⟩
theorem firstPair_inv {p : Nat → Nat → Bool} {n i j : Nat} (h : firstPair p n = some (i, j)) : i < j ∧ j < n ∧ p i j = true ∧ ∀ a b, a < b → b < n → p a b = true → ¬ (a < i ∨ a = i ∧ b < j) := by
  by_cases he : ∃ a, ∃ b, a < b ∧ b < n ∧ p a b = true
  · obtain ⟨a0, ha0⟩ := he
    obtain ⟨a, ⟨b0, hb0⟩, hmin⟩ := least (Q := fun a => ∃ b, a < b ∧ b < n ∧ p a b = true) a0 ha0
    obtain ⟨b, ⟨h1, h2, h3⟩, hmin2⟩ := least (Q := fun b => a < b ∧ b < n ∧ p a b = true) b0 hb0
    have e := firstPair_some h1 h2 h3 (fun x hx y hy hxy => by
      cases hp : p x y with
      | false => rfl
      | true => exact absurd ⟨y, hxy, hy, hp⟩ (hmin x hx)) (fun y hy hyb => by
      cases hp : p a y with
      | false => rfl
      | true => exact absurd ⟨hy, by omega, hp⟩ (hmin2 y hyb))
    rw [h] at e
    simp only [Option.some.injEq, Prod.mk.injEq] at e
    obtain ⟨rfl, rfl⟩ := e
    refine ⟨h1, h2, h3, fun x y hxy hyn hp hor => ?_⟩
    rcases hor with hlt | ⟨rfl, hlt⟩
    · exact hmin x hlt ⟨y, hxy, hyn, hp⟩
    · exact hmin2 y hlt ⟨hxy, hyn, hp⟩
  · have e := firstPair_none (p := p) (n := n) (fun a ha b hb hab => by
      cases hp : p a b with
      | false => rfl
      | true => exact absurd ⟨a, b, hab, hb, hp⟩ he)
    rw [h] at e; cases e
theorem firstPair_all {p : Nat → Nat → Bool} {n : Nat} (h : firstPair p n = none) : ∀ a b, a < b → b < n → p a b = false := fun a b hab hb => by
  cases hp : p a b with
  | false => rfl
  | true =>
    obtain ⟨x, ⟨b0, hb0⟩, hmin⟩ := least (Q := fun a => ∃ b, a < b ∧ b < n ∧ p a b = true) a ⟨b, hab, hb, hp⟩
    obtain ⟨y, ⟨h1, h2, h3⟩, hmin2⟩ := least (Q := fun b => x < b ∧ b < n ∧ p x b = true) b0 hb0
    have e := firstPair_some h1 h2 h3 (fun u hu v hv huv => by
      cases hp : p u v with
      | false => rfl
      | true => exact absurd ⟨v, huv, hv, hp⟩ (hmin u hu)) (fun v hv hvb => by
      cases hp : p x v with
      | false => rfl
      | true => exact absurd ⟨hv, by omega, hp⟩ (hmin2 v hvb))
    rw [h] at e; cases e

/-- isobarlaw03.only -/
theorem f49 (m : Mp) (i k : Nat) (hi : i < m.st.length) (hk : k < m.st.length) (hl : m.st.length ≤ 16) : ACall Tryz.prog G 49 [.agg (eMp m), .v (.int .i64 (i : Int)), .v (.int .i64 (k : Int))] (.agg (eMp (onlyS m m.st[i] m.st[k]))) := by
  refine acall_of Tryz.func49 rfl (by kernel_rfl) rfl ?_
  refine ac_seq ?_
  refine ac_region ?_
  refine al_y rfl rfl (y_box rfl (cE_agg rfl)) ?_
  refine al_m rfl (m_alloc rfl rfl zv24 rfl rfl) ?_
  refine al_nil ?_
  refine qt_normal ?_
  refine ac_seq ?_
  refine ac_region ?_
  refine al_y rfl rfl (y_loadN rfl rfl ty24 (by exact Nat.le_of_ble_eq_true rfl)) ?_
  refine al_m rfl (m_alloc rfl rfl zv24 rfl rfl) ?_
  refine al_m rfl (m_store rfl rfl rfl rfl rfl rfl (cE_agg rfl) ty24 (by rfl) (by exact Nat.le_of_ble_eq_true rfl)) ?_
  refine al_nil ?_
  refine qt_normal ?_
  refine ac_seq ?_
  refine ac_mix (fun m => ∃ rows, m[1]? = some (.row rows) ∧ rows.length = 1) (fun k => match k with | 12 => .writes | _ => .here) mixed (by kernel_rfl) rfl (by kernel_rfl) ⟨_, rfl, rfl⟩ ?_
  refine am_h rfl rfl (y_fieldAddr rfl rfl fld24_3) ?_
  refine am_h rfl rfl (y_load1 rfl rfl rfl ty22) ?_
  refine am_h rfl rfl (y_moveV rfl rfl) ?_
  refine am_h rfl rfl (y_indexAddr rfl rfl rfl slc22 (by omega) (row_at hi) stn_len) ?_
  refine am_h rfl rfl (y_loadN rfl rfl ty78 (by exact Nat.le_of_ble_eq_true rfl)) ?_
  refine am_h rfl rfl (y_fieldAddr rfl rfl fld24_3) ?_
  refine am_h rfl rfl (y_load1 rfl rfl rfl ty22) ?_
  refine am_h rfl rfl (y_moveV rfl rfl) ?_
  refine am_h rfl rfl (y_indexAddr rfl rfl rfl slc22 (by omega) (row_at hk) stn_len) ?_
  refine am_h rfl rfl (y_loadN rfl rfl ty78 (by exact Nat.le_of_ble_eq_true rfl)) ?_
  refine am_h rfl rfl (y_buildSlice (size := 3) (rows := [[_, _, _], [_, _, _]]) rfl Tryz.underlying22 ti78 rfl (by decide) rfl (by decide) ⟨_, _, rfl, (cE_agg rfl), ⟨_, _, rfl, (cE_agg rfl), rfl⟩⟩ (by rfl) (by simp [ofV]) rfl (by simp)) ?_
  refine am_h rfl rfl (y_fieldAddr_pp rfl rfl rfl rfl fld24_3) ?_
  refine am_w rfl rfl (opB_store rfl rfl rfl rfl rfl rfl (cE_sl rfl) ty22 (by rfl) (by rfl)) ⟨_, rfl, rfl⟩ ?_
  refine am_nil ?_
  refine qt_normal ?_
  refine ac_seq ?_
  refine ac_region ?_
  refine al_y rfl rfl (y_load_ppA (cs := [_, _, _, _]) rfl rfl rfl rfl rfl (by exact Nat.le_of_ble_eq_true rfl) rfl ty24) ?_
  refine al_m rfl (m_store rfl rfl rfl rfl rfl rfl (cE_agg rfl) ty24 (by rfl) (by exact Nat.le_of_ble_eq_true rfl)) ?_
  refine al_nil ?_
  refine qt_normal ?_
  refine ac_ret ?_
  exact ⟨.inr rfl, ret_one rfl (res_cell rfl rfl rfl rfl ty24 rfl ⟨_, _, rfl, AVle.refl _, ⟨_, _, rfl, AVle.refl _, ⟨_, _, rfl, AVle.refl _, ⟨_, _, rfl, AVle.refl _, rfl⟩⟩⟩⟩)⟩
end Go.Av
end

section
namespace Go.Av
open Go.Proofs
set_option maxRecDepth 100000
set_option maxHeartbeats 1000000
set_option linter.unusedSimpArgs false
variable {G : Glob}

/-- isobarlaw03.ChartShown -/
theorem f10_triv (hk : KN G) (m : Mp) (i k : Int) (h : ¬ (m.st.length ≤ 16 ∧ mapB m = true ∧ 0 ≤ i ∧ i < k ∧ k < (m.st.length : Int))) : ACall Tryz.prog G 10 [.agg (eMp m), .v (.int .i64 i), .v (.int .i64 k)] (.v (.bool true)) := by
  refine acall_of Tryz.func10 rfl (by kernel_rfl) rfl ?_
  refine ac_seq ?_
  refine ac_region ?_
  refine al_y rfl rfl (y_box rfl (cE_agg rfl)) ?_
  refine al_y rfl rfl (y_assignV rfl rfl) ?_
  refine al_nil ?_
  refine qt_normal ?_
  refine ac_seq ?_
  refine ac_seq ?_
  refine ac_region ?_
  refine al_y rfl rfl (y_loadN rfl rfl ty24 (by exact Nat.le_of_ble_eq_true rfl)) ?_
  refine al_y rfl rfl (y_callF (av := [_]) rfl ⟨rfl, trivial⟩ (f20 m)) ?_
  refine al_y rfl rfl (y_not rfl rfl) ?_
  refine al_y rfl rfl (y_moveV rfl rfl) ?_
  refine al_maybe rfl rfl rfl (fun hg => y_loadN rfl rfl ty24 (by exact Nat.le_of_ble_eq_true rfl)) ?_
  refine al_maybe rfl rfl rfl (fun hg => y_callF (av := [_]) rfl ⟨((if_pos hg)), trivial⟩ (f40 m)) ?_
  refine al_maybe rfl rfl rfl (fun hg => y_not rfl (if_pos hg)) ?_
  refine al_y rfl rfl (y_or rfl rfl rfl rfl) ?_
  refine al_y rfl rfl (y_moveV rfl rfl) ?_
  refine al_maybe rfl rfl rfl (fun hg => y_moveV rfl rfl) ?_
  refine al_maybe rfl rfl rfl (fun hg => y_lss rfl (if_pos hg) rfl) ?_
  refine al_y rfl rfl (y_or rfl rfl rfl rfl) ?_
  refine al_y rfl rfl (y_moveV rfl rfl) ?_
  refine al_maybe rfl rfl rfl (fun hg => y_moveV rfl rfl) ?_
  refine al_maybe rfl rfl rfl (fun hg => y_moveV rfl rfl) ?_
  refine al_maybe rfl rfl rfl (fun hg => y_leq rfl (if_pos hg) (if_pos hg)) ?_
  refine al_y rfl rfl (y_or rfl rfl rfl rfl) ?_
  refine al_y rfl rfl (y_moveV rfl rfl) ?_
  refine al_maybe rfl rfl rfl (fun hg => y_moveV rfl rfl) ?_
  refine al_maybe rfl rfl rfl (fun hg => y_fieldAddr rfl rfl fld24_3) ?_
  refine al_maybe rfl rfl rfl (fun hg => y_load1 rfl (if_pos hg) rfl ty22) ?_
  refine al_maybe rfl rfl rfl (fun hg => y_len rfl rfl (if_pos hg) Tryz.underlying22) ?_
  refine al_maybe rfl rfl rfl (fun hg => y_geq rfl (if_pos hg) (if_pos hg)) ?_
  refine al_y rfl rfl (y_or rfl rfl rfl rfl) ?_
  refine al_nil ?_
  refine qt_normal ?_
  refine ac_cond rfl (fun h0 => ?_) (fun h0 => ?_)
  · skip
    refine ac_seq ?_
    refine ac_region ?_
    refine al_y rfl rfl (y_callF (av := []) rfl trivial hk) ?_
    refine al_y rfl rfl (y_assignV rfl rfl) ?_
    refine al_nil ?_
    refine qt_normal ?_
    refine ac_ret ?_
    refine qt_ret ?_
    exact ⟨.inr rfl, AVle.refl _⟩
  · skip
    exfalso; apply h; simp at h0; refine ⟨by omega, h0.1.1.1.2, by omega, by omega, by omega⟩

/-- isobarlaw03.ChartShown -/
theorem f10_none (hk : KN G) (m : Mp) (i k : Nat) (hs : m.st.length ≤ 16) (hm : okM m) (hik : i < k) (hkl : k < m.st.length) (hc : clashOf m = none) : ACall Tryz.prog G 10 [.agg (eMp m), .v (.int .i64 (i : Int)), .v (.int .i64 (k : Int))] (.v (.bool true)) := by
  have hb2 : mapB m = true := (okM_iff m).2 hm
  have hi : i < m.st.length := by omega
  have ho := okM_only hm (List.getElem_mem hi) (List.getElem_mem hkl)
  have hq := only_none (m := m) (a := m.st[i]) (b := m.st[k]) (by rw [← pairB_at hi hkl]; exact firstPair_all hc i k hik hkl)
  refine acall_of Tryz.func10 rfl (by kernel_rfl) rfl ?_
  refine ac_seq ?_
  refine ac_region ?_
  refine al_y rfl rfl (y_box rfl (cE_agg rfl)) ?_
  refine al_y rfl rfl (y_assignV rfl rfl) ?_
  refine al_nil ?_
  refine qt_normal ?_
  refine ac_seq ?_
  refine ac_seq ?_
  refine ac_region ?_
  refine al_y rfl rfl (y_loadN rfl rfl ty24 (by exact Nat.le_of_ble_eq_true rfl)) ?_
  refine al_y rfl rfl (y_callF (av := [_]) rfl ⟨rfl, trivial⟩ (f20 m)) ?_
  refine al_y rfl rfl (y_not rfl rfl) ?_
  refine al_y rfl rfl (y_moveV rfl rfl) ?_
  refine al_maybe rfl rfl rfl (fun hg => y_loadN rfl rfl ty24 (by exact Nat.le_of_ble_eq_true rfl)) ?_
  refine al_maybe rfl rfl rfl (fun hg => y_callF (av := [_]) rfl ⟨((if_pos hg)), trivial⟩ (f40 m)) ?_
  refine al_maybe rfl rfl rfl (fun hg => y_not rfl (if_pos hg)) ?_
  refine al_y rfl rfl (y_or rfl rfl rfl rfl) ?_
  refine al_y rfl rfl (y_moveV rfl rfl) ?_
  refine al_maybe rfl rfl rfl (fun hg => y_moveV rfl rfl) ?_
  refine al_maybe rfl rfl rfl (fun hg => y_lss rfl (if_pos hg) rfl) ?_
  refine al_y rfl rfl (y_or rfl rfl rfl rfl) ?_
  refine al_y rfl rfl (y_moveV rfl rfl) ?_
  refine al_maybe rfl rfl rfl (fun hg => y_moveV rfl rfl) ?_
  refine al_maybe rfl rfl rfl (fun hg => y_moveV rfl rfl) ?_
  refine al_maybe rfl rfl rfl (fun hg => y_leq rfl (if_pos hg) (if_pos hg)) ?_
  refine al_y rfl rfl (y_or rfl rfl rfl rfl) ?_
  refine al_y rfl rfl (y_moveV rfl rfl) ?_
  refine al_maybe rfl rfl rfl (fun hg => y_moveV rfl rfl) ?_
  refine al_maybe rfl rfl rfl (fun hg => y_fieldAddr rfl rfl fld24_3) ?_
  refine al_maybe rfl rfl rfl (fun hg => y_load1 rfl (if_pos hg) rfl ty22) ?_
  refine al_maybe rfl rfl rfl (fun hg => y_len rfl rfl (if_pos hg) Tryz.underlying22) ?_
  refine al_maybe rfl rfl rfl (fun hg => y_geq rfl (if_pos hg) (if_pos hg)) ?_
  refine al_y rfl rfl (y_or rfl rfl rfl rfl) ?_
  refine al_nil ?_
  refine qt_normal ?_
  refine ac_cond rfl (fun h0 => ?_) (fun h0 => ?_)
  · skip
    exfalso; simp [hb2] at h0; omega
  · skip
    refine ac_skip ?_
    refine qt_normal ?_
    refine ac_seq ?_
    refine ac_region ?_
    refine al_y rfl rfl (y_loadN rfl rfl ty24 (by exact Nat.le_of_ble_eq_true rfl)) ?_
    refine al_y rfl rfl (y_callF (av := [_]) rfl ⟨rfl, trivial⟩ (f47_none m hm hc)) ?_
    refine al_y rfl rfl (y_moveP rfl rfl) ?_
    refine al_y rfl rfl (y_extract rfl rfl rfl) ?_
    refine al_y rfl rfl (y_extract rfl rfl rfl) ?_
    refine al_y rfl rfl (y_extract rfl rfl rfl) ?_
    refine al_y rfl rfl (y_assignV rfl rfl) ?_
    refine al_y rfl rfl (y_assignV rfl rfl) ?_
    refine al_y rfl rfl (y_assignV rfl rfl) ?_
    refine al_nil ?_
    refine qt_normal ?_
    refine ac_seq ?_
    refine ac_region ?_
    refine al_y rfl rfl (y_loadN rfl rfl ty24 (by exact Nat.le_of_ble_eq_true rfl)) ?_
    refine al_y rfl rfl (y_callF (av := [_]) rfl ⟨rfl, trivial⟩ (f22_ok m hm hc)) ?_
    refine al_y rfl rfl (y_moveP rfl rfl) ?_
    refine al_y rfl rfl (y_extract rfl rfl rfl) ?_
    refine al_y rfl rfl (y_extract rfl rfl rfl) ?_
    refine al_pair  rfl rfl rfl rfl rfl rfl rfl zv29 ty29 rfl (by rfl) (cE_agg rfl) rfl ?_
    refine al_y rfl rfl (y_assignV rfl rfl) ?_
    refine al_nil ?_
    refine qt_normal ?_
    refine ac_seq ?_
    refine ac_region ?_
    refine al_y rfl rfl (y_loadN rfl rfl ty24 (by exact Nat.le_of_ble_eq_true rfl)) ?_
    refine al_y rfl rfl (y_moveV rfl rfl) ?_
    refine al_y rfl rfl (y_moveV rfl rfl) ?_
    refine al_y rfl rfl (y_callF (av := [_, _, _]) rfl ⟨rfl, rfl, rfl, trivial⟩ (f49 m i k hi hkl hs)) ?_
    refine al_y rfl rfl (y_callF (av := [_]) rfl ⟨rfl, trivial⟩ (f22_ok _ ho hq)) ?_
    refine al_y rfl rfl (y_moveP rfl rfl) ?_
    refine al_y rfl rfl (y_extract rfl rfl rfl) ?_
    refine al_y rfl rfl (y_extract rfl rfl rfl) ?_
    refine al_pair  rfl rfl rfl rfl rfl rfl rfl zv29 ty29 rfl (by rfl) (cE_agg rfl) rfl ?_
    refine al_y rfl rfl (y_assignV rfl rfl) ?_
    refine al_nil ?_
    refine qt_normal ?_
    refine ac_seq ?_
    refine ac_seq ?_
    refine ac_region ?_
    refine al_y rfl rfl (y_moveV rfl rfl) ?_
    refine al_y rfl rfl (y_neq rfl rfl rfl) ?_
    refine al_nil ?_
    refine qt_normal ?_
    refine ac_cond rfl (fun h1 => ?_) (fun h1 => ?_)
    · skip
      refine ac_seq ?_
      refine ac_region ?_
      refine al_y rfl rfl (y_moveV rfl rfl) ?_
      refine al_y rfl rfl (y_eql rfl rfl rfl) ?_
      refine al_y rfl rfl (y_moveV rfl rfl) ?_
      refine al_maybe rfl rfl rfl (fun hg => y_moveV rfl rfl) ?_
      refine al_maybe rfl rfl rfl (fun hg => y_eql rfl (rfl) rfl) ?_
      refine al_y rfl rfl (y_and rfl rfl rfl rfl) ?_
      refine al_y rfl rfl (y_moveV rfl rfl) ?_
      refine al_maybe rfl rfl rfl (fun hg => y_moveV rfl rfl) ?_
      refine al_maybe rfl rfl rfl (fun hg => y_eql rfl (rfl) rfl) ?_
      refine al_y rfl rfl (y_and rfl rfl rfl rfl) ?_
      refine al_y rfl rfl (y_moveV rfl rfl) ?_
      refine al_maybe rfl rfl rfl (fun hg => y_callF (av := []) rfl trivial hk) ?_
      refine al_y rfl rfl (y_and rfl rfl rfl rfl) ?_
      refine al_y rfl rfl (y_assignV rfl rfl) ?_
      refine al_nil ?_
      refine qt_normal ?_
      refine ac_ret ?_
      refine qt_ret ?_
      exact ⟨.inr rfl, AVle.of (by simp)⟩
    · skip
      exfalso; simp at h1

/-- isobarlaw03.ChartShown -/
theorem f10_sn (hk : KN G) (m : Mp) (i k : Nat) (hs : m.st.length ≤ 16) (hm : okM m) (hik : i < k) (hkl : k < m.st.length) (p : Nat × Nat) (hc : clashOf m = some p) (hx : pairB m i k = false) : ACall Tryz.prog G 10 [.agg (eMp m), .v (.int .i64 (i : Int)), .v (.int .i64 (k : Int))] (.v (.bool true)) := by
  have hb2 : mapB m = true := (okM_iff m).2 hm
  have hi : i < m.st.length := by omega
  have ho := okM_only hm (List.getElem_mem hi) (List.getElem_mem hkl)
  obtain ⟨hp1, hp2, hp3, hp4⟩ := firstPair_inv hc
  have hpa : p.1 < m.st.length := by omega
  have ho2 := okM_only hm (List.getElem_mem hpa) (List.getElem_mem hp2)
  have hq2 := only_some (m := m) (a := m.st[p.1]) (b := m.st[p.2]) (by rw [← pairB_at hpa hp2]; exact hp3)
  have hq := only_none (m := m) (a := m.st[i]) (b := m.st[k]) (by rw [← pairB_at hi hkl]; exact hx)
  refine acall_of Tryz.func10 rfl (by kernel_rfl) rfl ?_
  refine ac_seq ?_
  refine ac_region ?_
  refine al_y rfl rfl (y_box rfl (cE_agg rfl)) ?_
  refine al_y rfl rfl (y_assignV rfl rfl) ?_
  refine al_nil ?_
  refine qt_normal ?_
  refine ac_seq ?_
  refine ac_seq ?_
  refine ac_region ?_
  refine al_y rfl rfl (y_loadN rfl rfl ty24 (by exact Nat.le_of_ble_eq_true rfl)) ?_
  refine al_y rfl rfl (y_callF (av := [_]) rfl ⟨rfl, trivial⟩ (f20 m)) ?_
  refine al_y rfl rfl (y_not rfl rfl) ?_
  refine al_y rfl rfl (y_moveV rfl rfl) ?_
  refine al_maybe rfl rfl rfl (fun hg => y_loadN rfl rfl ty24 (by exact Nat.le_of_ble_eq_true rfl)) ?_
  refine al_maybe rfl rfl rfl (fun hg => y_callF (av := [_]) rfl ⟨((if_pos hg)), trivial⟩ (f40 m)) ?_
  refine al_maybe rfl rfl rfl (fun hg => y_not rfl (if_pos hg)) ?_
  refine al_y rfl rfl (y_or rfl rfl rfl rfl) ?_
  refine al_y rfl rfl (y_moveV rfl rfl) ?_
  refine al_maybe rfl rfl rfl (fun hg => y_moveV rfl rfl) ?_
  refine al_maybe rfl rfl rfl (fun hg => y_lss rfl (if_pos hg) rfl) ?_
  refine al_y rfl rfl (y_or rfl rfl rfl rfl) ?_
  refine al_y rfl rfl (y_moveV rfl rfl) ?_
  refine al_maybe rfl rfl rfl (fun hg => y_moveV rfl rfl) ?_
  refine al_maybe rfl rfl rfl (fun hg => y_moveV rfl rfl) ?_
  refine al_maybe rfl rfl rfl (fun hg => y_leq rfl (if_pos hg) (if_pos hg)) ?_
  refine al_y rfl rfl (y_or rfl rfl rfl rfl) ?_
  refine al_y rfl rfl (y_moveV rfl rfl) ?_
  refine al_maybe rfl rfl rfl (fun hg => y_moveV rfl rfl) ?_
  refine al_maybe rfl rfl rfl (fun hg => y_fieldAddr rfl rfl fld24_3) ?_
  refine al_maybe rfl rfl rfl (fun hg => y_load1 rfl (if_pos hg) rfl ty22) ?_
  refine al_maybe rfl rfl rfl (fun hg => y_len rfl rfl (if_pos hg) Tryz.underlying22) ?_
  refine al_maybe rfl rfl rfl (fun hg => y_geq rfl (if_pos hg) (if_pos hg)) ?_
  refine al_y rfl rfl (y_or rfl rfl rfl rfl) ?_
  refine al_nil ?_
  refine qt_normal ?_
  refine ac_cond rfl (fun h0 => ?_) (fun h0 => ?_)
  · skip
    exfalso; simp [hb2] at h0; omega
  · skip
    refine ac_skip ?_
    refine qt_normal ?_
    refine ac_seq ?_
    refine ac_region ?_
    refine al_y rfl rfl (y_loadN rfl rfl ty24 (by exact Nat.le_of_ble_eq_true rfl)) ?_
    refine al_y rfl rfl (y_callF (av := [_]) rfl ⟨rfl, trivial⟩ (f47_some m hm p hc)) ?_
    refine al_y rfl rfl (y_moveP rfl rfl) ?_
    refine al_y rfl rfl (y_extract rfl rfl rfl) ?_
    refine al_y rfl rfl (y_extract rfl rfl rfl) ?_
    refine al_y rfl rfl (y_extract rfl rfl rfl) ?_
    refine al_y rfl rfl (y_assignV rfl rfl) ?_
    refine al_y rfl rfl (y_assignV rfl rfl) ?_
    refine al_y rfl rfl (y_assignV rfl rfl) ?_
    refine al_nil ?_
    refine qt_normal ?_
    refine ac_seq ?_
    refine ac_region ?_
    refine al_y rfl rfl (y_loadN rfl rfl ty24 (by exact Nat.le_of_ble_eq_true rfl)) ?_
    refine al_y rfl rfl (y_callF (av := [_]) rfl ⟨rfl, trivial⟩ (f22_clash m hm p hc)) ?_
    refine al_y rfl rfl (y_moveP rfl rfl) ?_
    refine al_y rfl rfl (y_extract rfl rfl rfl) ?_
    refine al_y rfl rfl (y_extract rfl rfl rfl) ?_
    refine al_pair  rfl rfl rfl rfl rfl rfl rfl zv29 ty29 rfl (by rfl) (cE_agg rfl) rfl ?_
    refine al_y rfl rfl (y_assignV rfl rfl) ?_
    refine al_nil ?_
    refine qt_normal ?_
    refine ac_seq ?_
    refine ac_region ?_
    refine al_y rfl rfl (y_loadN rfl rfl ty24 (by exact Nat.le_of_ble_eq_true rfl)) ?_
    refine al_y rfl rfl (y_moveV rfl rfl) ?_
    refine al_y rfl rfl (y_moveV rfl rfl) ?_
    refine al_y rfl rfl (y_callF (av := [_, _, _]) rfl ⟨rfl, rfl, rfl, trivial⟩ (f49 m i k hi hkl hs)) ?_
    refine al_y rfl rfl (y_callF (av := [_]) rfl ⟨rfl, trivial⟩ (f22_ok _ ho hq)) ?_
    refine al_y rfl rfl (y_moveP rfl rfl) ?_
    refine al_y rfl rfl (y_extract rfl rfl rfl) ?_
    refine al_y rfl rfl (y_extract rfl rfl rfl) ?_
    refine al_pair  rfl rfl rfl rfl rfl rfl rfl zv29 ty29 rfl (by rfl) (cE_agg rfl) rfl ?_
    refine al_y rfl rfl (y_assignV rfl rfl) ?_
    refine al_nil ?_
    refine qt_normal ?_
    refine ac_seq ?_
    refine ac_seq ?_
    refine ac_region ?_
    refine al_y rfl rfl (y_moveV rfl rfl) ?_
    refine al_y rfl rfl (y_neq rfl rfl rfl) ?_
    refine al_nil ?_
    refine qt_normal ?_
    refine ac_cond rfl (fun h1 => ?_) (fun h1 => ?_)
    · skip
      exfalso; simp at h1
    · skip
      refine ac_skip ?_
      refine qt_normal ?_
      refine ac_seq ?_
      refine ac_seq ?_
      refine ac_region ?_
      refine al_y rfl rfl (y_moveV rfl rfl) ?_
      refine al_y rfl rfl (y_lss rfl rfl rfl) ?_
      refine al_y rfl rfl (y_moveV rfl rfl) ?_
      refine al_maybe rfl rfl rfl (fun hg => y_moveV rfl rfl) ?_
      refine al_maybe rfl rfl rfl (fun hg => y_moveV rfl rfl) ?_
      refine al_maybe rfl rfl rfl (fun hg => y_leq rfl (rfl) (rfl)) ?_
      refine al_y rfl rfl (y_or rfl rfl rfl rfl) ?_
      refine al_y rfl rfl (y_moveV rfl rfl) ?_
      refine al_maybe rfl rfl rfl (fun hg => y_moveV rfl rfl) ?_
      refine al_maybe rfl rfl rfl (fun hg => y_fieldAddr rfl rfl fld24_3) ?_
      refine al_maybe rfl rfl rfl (fun hg => y_load1 rfl (if_pos hg) rfl ty22) ?_
      refine al_maybe rfl rfl rfl (fun hg => y_len rfl rfl (if_pos hg) Tryz.underlying22) ?_
      refine al_maybe rfl rfl rfl (fun hg => y_geq rfl (if_pos hg) (if_pos hg)) ?_
      refine al_y rfl rfl (y_or rfl rfl rfl rfl) ?_
      refine al_nil ?_
      refine qt_normal ?_
      refine ac_cond rfl (fun h2 => ?_) (fun h2 => ?_)
      · skip
        exfalso; simp at h2; omega
      · skip
        refine ac_skip ?_
        refine qt_normal ?_
        refine ac_seq ?_
        refine ac_region ?_
        refine al_y rfl rfl (y_loadN rfl rfl ty24 (by exact Nat.le_of_ble_eq_true rfl)) ?_
        refine al_y rfl rfl (y_moveV rfl rfl) ?_
        refine al_y rfl rfl (y_moveV rfl rfl) ?_
        refine al_y rfl rfl (y_callF (av := [_, _, _]) rfl ⟨rfl, rfl, rfl, trivial⟩ (f49 m p.1 p.2 hpa hp2 hs)) ?_
        refine al_y rfl rfl (y_callF (av := [_]) rfl ⟨rfl, trivial⟩ (f22_clash _ ho2 _ hq2)) ?_
        refine al_y rfl rfl (y_moveP rfl rfl) ?_
        refine al_y rfl rfl (y_extract rfl rfl rfl) ?_
        refine al_y rfl rfl (y_extract rfl rfl rfl) ?_
        refine al_pair  rfl rfl rfl rfl rfl rfl rfl zv29 ty29 rfl (by rfl) (cE_agg rfl) rfl ?_
        refine al_y rfl rfl (y_assignV rfl rfl) ?_
        refine al_nil ?_
        refine qt_normal ?_
        refine ac_seq ?_
        refine ac_region ?_
        refine al_y rfl rfl (y_moveV rfl rfl) ?_
        refine al_y rfl rfl (y_moveV rfl rfl) ?_
        refine al_y rfl rfl (y_lss rfl rfl rfl) ?_
        refine al_y rfl rfl (y_moveV rfl rfl) ?_
        refine al_maybe rfl rfl rfl (fun hg => y_moveV rfl rfl) ?_
        refine al_maybe rfl rfl rfl (fun hg => y_moveV rfl rfl) ?_
        refine al_maybe rfl rfl rfl (fun hg => y_eql rfl (if_pos hg) (if_pos hg)) ?_
        refine al_maybe rfl rfl rfl (fun hg => y_moveV rfl (if_pos hg)) ?_
        refine al_maybe rfl (wanted_ite rfl rfl rfl) rfl (fun hg => y_moveV rfl rfl) ?_
        refine al_maybe rfl (wanted_ite rfl rfl rfl) rfl (fun hg => y_moveV rfl rfl) ?_
        refine al_maybe rfl (wanted_ite rfl rfl rfl) rfl (fun hg => y_lss rfl (if_pos hg) (if_pos hg)) ?_
        refine al_maybe rfl rfl rfl (fun hg => y_and rfl (if_pos hg) (ite_and hg) rfl) ?_
        refine al_y rfl rfl (y_or rfl rfl rfl rfl) ?_
        refine al_y rfl rfl (y_assignV rfl rfl) ?_
        refine al_nil ?_
        refine qt_normal ?_
        refine ac_seq ?_
        refine ac_region ?_
        refine al_y rfl rfl (y_moveV rfl rfl) ?_
        refine al_y rfl rfl (y_eql rfl rfl rfl) ?_
        refine al_y rfl rfl (y_moveV rfl rfl) ?_
        refine al_maybe rfl rfl rfl (fun hg => y_moveV rfl rfl) ?_
        refine al_maybe rfl rfl rfl (fun hg => y_eql rfl (rfl) rfl) ?_
        refine al_y rfl rfl (y_and rfl rfl rfl rfl) ?_
        refine al_y rfl rfl (y_moveV rfl rfl) ?_
        refine al_maybe rfl rfl rfl (fun hg => y_moveV rfl rfl) ?_
        refine al_maybe rfl rfl rfl (fun hg => y_eql rfl (rfl) rfl) ?_
        refine al_maybe rfl rfl rfl (fun hg => y_moveV rfl (rfl)) ?_
        refine al_maybe rfl rfl rfl (fun hg => y_moveV rfl rfl) ?_
        refine al_maybe (x := .pub (.tup [])) rfl rfl rfl (fun hg => absurd hg (by decide)) ?_
        refine al_maybe rfl rfl rfl (fun hg => y_moveP rfl rfl) ?_
        refine al_maybe rfl rfl rfl (fun hg => y_moveV rfl rfl) ?_
        refine al_maybe (x := .pub (.tup [])) rfl rfl rfl (fun hg => absurd hg (by decide)) ?_
        refine al_maybe (x := .pub (.tup [])) rfl rfl rfl (fun hg => absurd hg (by decide)) ?_
        refine al_maybe rfl rfl rfl (fun hg => y_pick rfl rfl (fun _ => rfl) (fun h => absurd h (by decide))) ?_
        refine al_y rfl rfl (y_and rfl rfl rfl rfl) ?_
        refine al_y rfl rfl (y_moveV rfl rfl) ?_
        refine al_maybe rfl rfl rfl (fun hg => y_callF (av := []) rfl trivial hk) ?_
        refine al_y rfl rfl (y_and rfl rfl rfl rfl) ?_
        refine al_y rfl rfl (y_assignV rfl rfl) ?_
        refine al_nil ?_
        refine qt_normal ?_
        refine ac_ret ?_
        exact ⟨.inr rfl, AVle.of (by simp)⟩

/-- isobarlaw03.ChartShown -/
theorem f10_ss (hk : KN G) (m : Mp) (i k : Nat) (hs : m.st.length ≤ 16) (hm : okM m) (hik : i < k) (hkl : k < m.st.length) (p : Nat × Nat) (hc : clashOf m = some p) (hx : pairB m i k = true) : ACall Tryz.prog G 10 [.agg (eMp m), .v (.int .i64 (i : Int)), .v (.int .i64 (k : Int))] (.v (.bool true)) := by
  have hb2 : mapB m = true := (okM_iff m).2 hm
  have hi : i < m.st.length := by omega
  have ho := okM_only hm (List.getElem_mem hi) (List.getElem_mem hkl)
  obtain ⟨hp1, hp2, hp3, hp4⟩ := firstPair_inv hc
  have hpa : p.1 < m.st.length := by omega
  have ho2 := okM_only hm (List.getElem_mem hpa) (List.getElem_mem hp2)
  have hq2 := only_some (m := m) (a := m.st[p.1]) (b := m.st[p.2]) (by rw [← pairB_at hpa hp2]; exact hp3)
  have hq := only_some (m := m) (a := m.st[i]) (b := m.st[k]) (by rw [← pairB_at hi hkl]; exact hx)
  have hnb := hp4 i k hik hkl hx
  refine acall_of Tryz.func10 rfl (by kernel_rfl) rfl ?_
  refine ac_seq ?_
  refine ac_region ?_
  refine al_y rfl rfl (y_box rfl (cE_agg rfl)) ?_
  refine al_y rfl rfl (y_assignV rfl rfl) ?_
  refine al_nil ?_
  refine qt_normal ?_
  refine ac_seq ?_
  refine ac_seq ?_
  refine ac_region ?_
  refine al_y rfl rfl (y_loadN rfl rfl ty24 (by exact Nat.le_of_ble_eq_true rfl)) ?_
  refine al_y rfl rfl (y_callF (av := [_]) rfl ⟨rfl, trivial⟩ (f20 m)) ?_
  refine al_y rfl rfl (y_not rfl rfl) ?_
  refine al_y rfl rfl (y_moveV rfl rfl) ?_
  refine al_maybe rfl rfl rfl (fun hg => y_loadN rfl rfl ty24 (by exact Nat.le_of_ble_eq_true rfl)) ?_
  refine al_maybe rfl rfl rfl (fun hg => y_callF (av := [_]) rfl ⟨((if_pos hg)), trivial⟩ (f40 m)) ?_
  refine al_maybe rfl rfl rfl (fun hg => y_not rfl (if_pos hg)) ?_
  refine al_y rfl rfl (y_or rfl rfl rfl rfl) ?_
  refine al_y rfl rfl (y_moveV rfl rfl) ?_
  refine al_maybe rfl rfl rfl (fun hg => y_moveV rfl rfl) ?_
  refine al_maybe rfl rfl rfl (fun hg => y_lss rfl (if_pos hg) rfl) ?_
  refine al_y rfl rfl (y_or rfl rfl rfl rfl) ?_
  refine al_y rfl rfl (y_moveV rfl rfl) ?_
  refine al_maybe rfl rfl rfl (fun hg => y_moveV rfl rfl) ?_
  refine al_maybe rfl rfl rfl (fun hg => y_moveV rfl rfl) ?_
  refine al_maybe rfl rfl rfl (fun hg => y_leq rfl (if_pos hg) (if_pos hg)) ?_
  refine al_y rfl rfl (y_or rfl rfl rfl rfl) ?_
  refine al_y rfl rfl (y_moveV rfl rfl) ?_
  refine al_maybe rfl rfl rfl (fun hg => y_moveV rfl rfl) ?_
  refine al_maybe rfl rfl rfl (fun hg => y_fieldAddr rfl rfl fld24_3) ?_
  refine al_maybe rfl rfl rfl (fun hg => y_load1 rfl (if_pos hg) rfl ty22) ?_
  refine al_maybe rfl rfl rfl (fun hg => y_len rfl rfl (if_pos hg) Tryz.underlying22) ?_
  refine al_maybe rfl rfl rfl (fun hg => y_geq rfl (if_pos hg) (if_pos hg)) ?_
  refine al_y rfl rfl (y_or rfl rfl rfl rfl) ?_
  refine al_nil ?_
  refine qt_normal ?_
  refine ac_cond rfl (fun h0 => ?_) (fun h0 => ?_)
  · skip
    exfalso; simp [hb2] at h0; omega
  · skip
    refine ac_skip ?_
    refine qt_normal ?_
    refine ac_seq ?_
    refine ac_region ?_
    refine al_y rfl rfl (y_loadN rfl rfl ty24 (by exact Nat.le_of_ble_eq_true rfl)) ?_
    refine al_y rfl rfl (y_callF (av := [_]) rfl ⟨rfl, trivial⟩ (f47_some m hm p hc)) ?_
    refine al_y rfl rfl (y_moveP rfl rfl) ?_
    refine al_y rfl rfl (y_extract rfl rfl rfl) ?_
    refine al_y rfl rfl (y_extract rfl rfl rfl) ?_
    refine al_y rfl rfl (y_extract rfl rfl rfl) ?_
    refine al_y rfl rfl (y_assignV rfl rfl) ?_
    refine al_y rfl rfl (y_assignV rfl rfl) ?_
    refine al_y rfl rfl (y_assignV rfl rfl) ?_
    refine al_nil ?_
    refine qt_normal ?_
    refine ac_seq ?_
    refine ac_region ?_
    refine al_y rfl rfl (y_loadN rfl rfl ty24 (by exact Nat.le_of_ble_eq_true rfl)) ?_
    refine al_y rfl rfl (y_callF (av := [_]) rfl ⟨rfl, trivial⟩ (f22_clash m hm p hc)) ?_
    refine al_y rfl rfl (y_moveP rfl rfl) ?_
    refine al_y rfl rfl (y_extract rfl rfl rfl) ?_
    refine al_y rfl rfl (y_extract rfl rfl rfl) ?_
    refine al_pair  rfl rfl rfl rfl rfl rfl rfl zv29 ty29 rfl (by rfl) (cE_agg rfl) rfl ?_
    refine al_y rfl rfl (y_assignV rfl rfl) ?_
    refine al_nil ?_
    refine qt_normal ?_
    refine ac_seq ?_
    refine ac_region ?_
    refine al_y rfl rfl (y_loadN rfl rfl ty24 (by exact Nat.le_of_ble_eq_true rfl)) ?_
    refine al_y rfl rfl (y_moveV rfl rfl) ?_
    refine al_y rfl rfl (y_moveV rfl rfl) ?_
    refine al_y rfl rfl (y_callF (av := [_, _, _]) rfl ⟨rfl, rfl, rfl, trivial⟩ (f49 m i k hi hkl hs)) ?_
    refine al_y rfl rfl (y_callF (av := [_]) rfl ⟨rfl, trivial⟩ (f22_clash _ ho _ hq)) ?_
    refine al_y rfl rfl (y_moveP rfl rfl) ?_
    refine al_y rfl rfl (y_extract rfl rfl rfl) ?_
    refine al_y rfl rfl (y_extract rfl rfl rfl) ?_
    refine al_pair  rfl rfl rfl rfl rfl rfl rfl zv29 ty29 rfl (by rfl) (cE_agg rfl) rfl ?_
    refine al_y rfl rfl (y_assignV rfl rfl) ?_
    refine al_nil ?_
    refine qt_normal ?_
    refine ac_seq ?_
    refine ac_seq ?_
    refine ac_region ?_
    refine al_y rfl rfl (y_moveV rfl rfl) ?_
    refine al_y rfl rfl (y_neq rfl rfl rfl) ?_
    refine al_nil ?_
    refine qt_normal ?_
    refine ac_cond rfl (fun h1 => ?_) (fun h1 => ?_)
    · skip
      exfalso; simp at h1
    · skip
      refine ac_skip ?_
      refine qt_normal ?_
      refine ac_seq ?_
      refine ac_seq ?_
      refine ac_region ?_
      refine al_y rfl rfl (y_moveV rfl rfl) ?_
      refine al_y rfl rfl (y_lss rfl rfl rfl) ?_
      refine al_y rfl rfl (y_moveV rfl rfl) ?_
      refine al_maybe rfl rfl rfl (fun hg => y_moveV rfl rfl) ?_
      refine al_maybe rfl rfl rfl (fun hg => y_moveV rfl rfl) ?_
      refine al_maybe rfl rfl rfl (fun hg => y_leq rfl (rfl) (rfl)) ?_
      refine al_y rfl rfl (y_or rfl rfl rfl rfl) ?_
      refine al_y rfl rfl (y_moveV rfl rfl) ?_
      refine al_maybe rfl rfl rfl (fun hg => y_moveV rfl rfl) ?_
      refine al_maybe rfl rfl rfl (fun hg => y_fieldAddr rfl rfl fld24_3) ?_
      refine al_maybe rfl rfl rfl (fun hg => y_load1 rfl (if_pos hg) rfl ty22) ?_
      refine al_maybe rfl rfl rfl (fun hg => y_len rfl rfl (if_pos hg) Tryz.underlying22) ?_
      refine al_maybe rfl rfl rfl (fun hg => y_geq rfl (if_pos hg) (if_pos hg)) ?_
      refine al_y rfl rfl (y_or rfl rfl rfl rfl) ?_
      refine al_nil ?_
      refine qt_normal ?_
      refine ac_cond rfl (fun h2 => ?_) (fun h2 => ?_)
      · skip
        exfalso; simp at h2; omega
      · skip
        refine ac_skip ?_
        refine qt_normal ?_
        refine ac_seq ?_
        refine ac_region ?_
        refine al_y rfl rfl (y_loadN rfl rfl ty24 (by exact Nat.le_of_ble_eq_true rfl)) ?_
        refine al_y rfl rfl (y_moveV rfl rfl) ?_
        refine al_y rfl rfl (y_moveV rfl rfl) ?_
        refine al_y rfl rfl (y_callF (av := [_, _, _]) rfl ⟨rfl, rfl, rfl, trivial⟩ (f49 m p.1 p.2 hpa hp2 hs)) ?_
        refine al_y rfl rfl (y_callF (av := [_]) rfl ⟨rfl, trivial⟩ (f22_clash _ ho2 _ hq2)) ?_
        refine al_y rfl rfl (y_moveP rfl rfl) ?_
        refine al_y rfl rfl (y_extract rfl rfl rfl) ?_
        refine al_y rfl rfl (y_extract rfl rfl rfl) ?_
        refine al_pair  rfl rfl rfl rfl rfl rfl rfl zv29 ty29 rfl (by rfl) (cE_agg rfl) rfl ?_
        refine al_y rfl rfl (y_assignV rfl rfl) ?_
        refine al_nil ?_
        refine qt_normal ?_
        refine ac_seq ?_
        refine ac_region ?_
        refine al_y rfl rfl (y_moveV rfl rfl) ?_
        refine al_y rfl rfl (y_moveV rfl rfl) ?_
        refine al_y rfl rfl (y_lss rfl rfl rfl) ?_
        refine al_y rfl rfl (y_moveV rfl rfl) ?_
        refine al_maybe rfl rfl rfl (fun hg => y_moveV rfl rfl) ?_
        refine al_maybe rfl rfl rfl (fun hg => y_moveV rfl rfl) ?_
        refine al_maybe rfl rfl rfl (fun hg => y_eql rfl (if_pos hg) (if_pos hg)) ?_
        refine al_maybe rfl rfl rfl (fun hg => y_moveV rfl (if_pos hg)) ?_
        refine al_maybe rfl (wanted_ite rfl rfl rfl) rfl (fun hg => y_moveV rfl rfl) ?_
        refine al_maybe rfl (wanted_ite rfl rfl rfl) rfl (fun hg => y_moveV rfl rfl) ?_
        refine al_maybe rfl (wanted_ite rfl rfl rfl) rfl (fun hg => y_lss rfl (if_pos hg) (if_pos hg)) ?_
        refine al_maybe rfl rfl rfl (fun hg => y_and rfl (if_pos hg) (ite_and hg) rfl) ?_
        refine al_y rfl rfl (y_or rfl rfl rfl rfl) ?_
        refine al_y rfl rfl (y_assignV rfl rfl) ?_
        refine al_nil ?_
        refine qt_normal ?_
        refine ac_seq ?_
        refine ac_region ?_
        refine al_y rfl rfl (y_moveV rfl rfl) ?_
        refine al_y rfl rfl (y_eql rfl rfl rfl) ?_
        refine al_y rfl rfl (y_moveV rfl rfl) ?_
        refine al_maybe rfl rfl rfl (fun hg => y_moveV rfl rfl) ?_
        refine al_maybe rfl rfl rfl (fun hg => y_eql rfl (rfl) rfl) ?_
        refine al_y rfl rfl (y_and rfl rfl rfl rfl) ?_
        refine al_y rfl rfl (y_moveV rfl rfl) ?_
        refine al_maybe rfl rfl rfl (fun hg => y_moveV rfl rfl) ?_
        refine al_maybe rfl rfl rfl (fun hg => y_eql rfl (rfl) rfl) ?_
        refine al_maybe rfl rfl rfl (fun hg => y_moveV rfl (rfl)) ?_
        refine al_maybe rfl rfl rfl (fun hg => y_moveV rfl rfl) ?_
        refine al_maybe rfl rfl rfl (fun hg => y_eql rfl rfl rfl) ?_
        refine al_maybe rfl rfl rfl (fun hg => y_moveV rfl rfl) ?_
        refine al_maybe rfl rfl rfl (fun hg => y_moveV rfl rfl) ?_
        refine al_maybe rfl rfl rfl (fun hg => y_not rfl rfl) ?_
        refine al_maybe rfl rfl rfl (fun hg => y_and rfl rfl rfl rfl) ?_
        refine al_maybe rfl rfl rfl (fun hg => y_or rfl rfl rfl rfl) ?_
        refine al_y rfl rfl (y_and rfl rfl rfl rfl) ?_
        refine al_y rfl rfl (y_moveV rfl rfl) ?_
        refine al_maybe rfl rfl rfl (fun hg => y_callF (av := []) rfl trivial hk) ?_
        refine al_y rfl rfl (y_and rfl rfl rfl rfl) ?_
        refine al_y rfl rfl (y_assignV rfl rfl) ?_
        refine al_nil ?_
        refine qt_normal ?_
        refine ac_ret ?_
        exact ⟨.inr rfl, AVle.of (by simp; omega)⟩

theorem f10 (hk : KN G) (m : Mp) (i k : Int) : ACall Tryz.prog G 10 [.agg (eMp m), ei i, ei k] (.v (.bool true)) := by
  by_cases h : (m.st.length ≤ 16 ∧ mapB m = true ∧ 0 ≤ i ∧ i < k ∧ k < (m.st.length : Int))
  · obtain ⟨hs, hb, h1, h2, h3⟩ := h
    have hm := (okM_iff m).1 hb
    obtain ⟨a, rfl⟩ := Int.eq_ofNat_of_zero_le h1
    obtain ⟨b, rfl⟩ := Int.eq_ofNat_of_zero_le (by omega : 0 ≤ k)
    cases hc : clashOf m with
    | none => exact f10_none hk m a b hs hm (by omega) (by omega) hc
    | some p =>
      cases hx : pairB m a b with
      | false => exact f10_sn hk m a b hs hm (by omega) (by omega) p hc hx
      | true => exact f10_ss hk m a b hs hm (by omega) (by omega) p hc hx
  · exact f10_triv hk m i k h
end Go.Av
end
