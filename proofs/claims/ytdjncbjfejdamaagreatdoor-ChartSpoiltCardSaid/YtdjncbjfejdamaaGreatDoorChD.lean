/- The drawn field. · The reference: bounds, the drawn field. -/
import Derived.Test.YtdjncbjfejdamaaGreatDoorChC
set_option linter.unusedVariables false
set_option linter.unusedSimpArgs false
section
namespace Go.Av
open Go.Proofs
set_option maxRecDepth 100000
set_option maxHeartbeats 1000000
set_option linter.unusedSimpArgs false
variable {G : Glob}

/-- The drawn field; what it comes to when there is none. -/
def drawL (m : Mp) : List Int := (List.range (npt m)).map fun p : Nat => (loOf m.wide m.slope (p : Int) m.st + hiOf m.wide m.slope (p : Int) m.st) / 2
def drawF (m : Mp) : Fld := ⟨m.wide, drawL m⟩
def zFld : Fld := ⟨0, []⟩
def drE (m : Mp) (p : Nat) : List EV := [I ((loOf m.wide m.slope (p : Int) m.st + hiOf m.wide m.slope (p : Int) m.st) / 2)]
theorem los_len (m : Mp) : (los m).length = npt m := by simp [los]
theorem his_len (m : Mp) : (his m).length = npt m := by simp [his]
theorem los_at {m : Mp} {k : Nat} (h : k < (los m).length) : (los m)[k] = loOf m.wide m.slope (k : Int) m.st := by simp [los]
theorem his_at {m : Mp} {k : Nat} (h : k < (his m).length) : (his m)[k] = hiOf m.wide m.slope (k : Int) m.st := by simp [his]
theorem los_bd {m : Mp} (hm : okM m) {k : Nat} (h : k < (los m).length) : 0 ≤ (los m)[k] ∧ (los m)[k] ≤ 99999 := by
  have hn := npt_bd hm
  rw [los_at h]; rw [los_len] at h
  have := hm.lo (p := (k : Int)) (by omega) m.st.length
  rwa [List.take_of_length_le (Nat.le_refl _)] at this
theorem his_bd {m : Mp} (hm : okM m) {k : Nat} (h : k < (his m).length) : 0 ≤ (his m)[k] ∧ (his m)[k] ≤ 99999 := by
  have hn := npt_bd hm
  rw [his_at h]; rw [his_len] at h
  have := hm.hi (p := (k : Int)) (by omega) m.st.length
  rwa [List.take_of_length_le (Nat.le_refl _)] at this
theorem dr_snoc {m : Mp} {k : Nat} (h1 : k < (los m).length) (h2 : k < (his m).length) : (List.range k).map (drE m) ++ [[I (((los m)[k] + (his m)[k]) / 2)]] = (List.range (k + 1)).map (drE m) := by
  rw [los_at h1, his_at h2]; exact range_snoc (drE m) k

/-- chart.Draw -/
theorem f22_bad (m : Mp) (hb : mapB m = false) : ACall Tryz.prog G 22 [.agg (eMp m)] (.tup [.agg (eFld zFld), ei 2]) := by
  refine acall_of Tryz.func22 rfl (by kernel_rfl) rfl ?_
  refine ac_seq ?_
  refine ac_region ?_
  refine al_y rfl rfl (y_box rfl (cE_agg rfl)) ?_
  refine al_m rfl (m_alloc rfl rfl zv29 rfl rfl) ?_
  refine al_y rfl rfl (y_assignV rfl rfl) ?_
  refine al_nil ?_
  refine qt_normal ?_
  refine ac_seq ?_
  refine ac_region ?_
  refine al_y rfl rfl (y_loadN rfl rfl ty24 (by exact Nat.le_of_ble_eq_true rfl)) ?_
  refine al_y rfl rfl (y_callF (av := [_, _]) rfl ⟨rfl, rfl, trivial⟩ (f62_bad m hb 63 [] [])) ?_
  refine al_y rfl rfl (y_moveP rfl rfl) ?_
  refine al_y rfl rfl (y_extract rfl rfl rfl) ?_
  refine al_y rfl rfl (y_extract rfl rfl rfl) ?_
  refine al_pair  rfl rfl rfl rfl rfl rfl rfl zv101 ty101 rfl (by rfl) (cE_agg rfl) rfl ?_
  refine al_y rfl rfl (y_assignV rfl rfl) ?_
  refine al_nil ?_
  refine qt_normal ?_
  refine ac_seq ?_
  refine ac_seq ?_
  refine ac_region ?_
  refine al_y rfl rfl (y_moveV rfl rfl) ?_
  refine al_y rfl rfl (y_neq rfl rfl rfl) ?_
  refine al_nil ?_
  refine qt_normal ?_
  refine ac_cond rfl (fun h0 => ?_) (fun h0 => ?_)
  · skip
    refine ac_seq ?_
    refine ac_region ?_
    refine al_y rfl rfl (y_build (cs := [_, _]) rfl st29 rfl rfl (by rfl) (by simp [ofV])) ?_
    refine al_y rfl rfl (y_moveV rfl rfl) ?_
    refine al_m rfl (m_store rfl rfl rfl rfl rfl rfl (cE_agg rfl) ty29 (by rfl) (by exact Nat.le_of_ble_eq_true rfl)) ?_
    refine al_y rfl rfl (y_assignV rfl rfl) ?_
    refine al_nil ?_
    refine qt_normal ?_
    refine ac_ret ?_
    refine qt_ret ?_
    exact ⟨.inr rfl, ⟨_, rfl, ⟨_, _, rfl, (res_cell rfl rfl rfl rfl ty29 rfl ⟨_, _, rfl, AVle.refl _, ⟨_, _, rfl, AVle.nil, rfl⟩⟩), ⟨_, _, rfl, AVle.refl _, rfl⟩⟩⟩⟩
  · skip
    exfalso; simp at h0

/-- chart.Draw -/
theorem f22_clash (m : Mp) (hm : okM m) (p : Nat × Nat) (hc : clashOf m = some p) : ACall Tryz.prog G 22 [.agg (eMp m)] (.tup [.agg (eFld zFld), ei 7]) := by
  refine acall_of Tryz.func22 rfl (by kernel_rfl) rfl ?_
  refine ac_seq ?_
  refine ac_region ?_
  refine al_y rfl rfl (y_box rfl (cE_agg rfl)) ?_
  refine al_m rfl (m_alloc rfl rfl zv29 rfl rfl) ?_
  refine al_y rfl rfl (y_assignV rfl rfl) ?_
  refine al_nil ?_
  refine qt_normal ?_
  refine ac_seq ?_
  refine ac_region ?_
  refine al_y rfl rfl (y_loadN rfl rfl ty24 (by exact Nat.le_of_ble_eq_true rfl)) ?_
  refine al_y rfl rfl (y_callF (av := [_, _]) rfl ⟨rfl, rfl, trivial⟩ (f62_clash m hm 63 [] [] (f63 m) p hc)) ?_
  refine al_y rfl rfl (y_moveP rfl rfl) ?_
  refine al_y rfl rfl (y_extract rfl rfl rfl) ?_
  refine al_y rfl rfl (y_extract rfl rfl rfl) ?_
  refine al_pair  rfl rfl rfl rfl rfl rfl rfl zv101 ty101 rfl (by rfl) (cE_agg rfl) rfl ?_
  refine al_y rfl rfl (y_assignV rfl rfl) ?_
  refine al_nil ?_
  refine qt_normal ?_
  refine ac_seq ?_
  refine ac_seq ?_
  refine ac_region ?_
  refine al_y rfl rfl (y_moveV rfl rfl) ?_
  refine al_y rfl rfl (y_neq rfl rfl rfl) ?_
  refine al_nil ?_
  refine qt_normal ?_
  refine ac_cond rfl (fun h0 => ?_) (fun h0 => ?_)
  · skip
    refine ac_seq ?_
    refine ac_region ?_
    refine al_y rfl rfl (y_build (cs := [_, _]) rfl st29 rfl rfl (by rfl) (by simp [ofV])) ?_
    refine al_y rfl rfl (y_moveV rfl rfl) ?_
    refine al_m rfl (m_store rfl rfl rfl rfl rfl rfl (cE_agg rfl) ty29 (by rfl) (by exact Nat.le_of_ble_eq_true rfl)) ?_
    refine al_y rfl rfl (y_assignV rfl rfl) ?_
    refine al_nil ?_
    refine qt_normal ?_
    refine ac_ret ?_
    refine qt_ret ?_
    exact ⟨.inr rfl, ⟨_, rfl, ⟨_, _, rfl, (res_cell rfl rfl rfl rfl ty29 rfl ⟨_, _, rfl, AVle.refl _, ⟨_, _, rfl, AVle.nil, rfl⟩⟩), ⟨_, _, rfl, AVle.refl _, rfl⟩⟩⟩⟩
  · skip
    exfalso; simp at h0

/-- chart.Draw -/
theorem f22_ok (m : Mp) (hm : okM m) (hc : clashOf m = none) : ACall Tryz.prog G 22 [.agg (eMp m)] (.tup [.agg (eFld (drawF m)), ei 0]) := by
  have hn := npt_bd hm
  refine acall_of Tryz.func22 rfl (by kernel_rfl) rfl ?_
  refine ac_seq ?_
  refine ac_region ?_
  refine al_y rfl rfl (y_box rfl (cE_agg rfl)) ?_
  refine al_m rfl (m_alloc rfl rfl zv29 rfl rfl) ?_
  refine al_y rfl rfl (y_assignV rfl rfl) ?_
  refine al_nil ?_
  refine qt_normal ?_
  refine ac_seq ?_
  refine ac_region ?_
  refine al_y rfl rfl (y_loadN rfl rfl ty24 (by exact Nat.le_of_ble_eq_true rfl)) ?_
  refine al_y rfl rfl (y_callF (av := [_, _]) rfl ⟨rfl, rfl, trivial⟩ (f62_ok m hm 63 [] [] (f63 m) hc)) ?_
  refine al_y rfl rfl (y_moveP rfl rfl) ?_
  refine al_y rfl rfl (y_extract rfl rfl rfl) ?_
  refine al_y rfl rfl (y_extract rfl rfl rfl) ?_
  refine al_pair  rfl rfl rfl rfl rfl rfl rfl zv101 ty101 rfl (by rfl) (cE_agg rfl) rfl ?_
  refine al_y rfl rfl (y_assignV rfl rfl) ?_
  refine al_nil ?_
  refine qt_normal ?_
  refine ac_seq ?_
  refine ac_seq ?_
  refine ac_region ?_
  refine al_y rfl rfl (y_moveV rfl rfl) ?_
  refine al_y rfl rfl (y_neq rfl rfl rfl) ?_
  refine al_nil ?_
  refine qt_normal ?_
  refine ac_cond rfl (fun h0 => ?_) (fun h0 => ?_)
  · skip
    exfalso; simp at h0
  · skip
    refine ac_skip ?_
    refine qt_normal ?_
    refine ac_seq ?_
    refine ac_region ?_
    refine al_y rfl rfl (y_loadN rfl rfl ty101 (by exact Nat.le_of_ble_eq_true rfl)) ?_
    refine al_y rfl rfl (y_callF (av := [_]) rfl ⟨rfl, trivial⟩ (f64 m hm)) ?_
    refine al_pair  rfl rfl rfl rfl rfl rfl rfl zv105 ty105 rfl (by rfl) (cE_agg rfl) rfl ?_
    refine al_nil ?_
    refine qt_normal ?_
    refine ac_seq ?_
    refine ac_region ?_
    refine al_y rfl rfl (y_fieldAddr rfl rfl fld24_0) ?_
    refine al_y rfl rfl (y_load1 rfl rfl rfl ty3) ?_
    refine al_y rfl rfl (y_build (cs := [_, _]) rfl st29 rfl ⟨_, _, rfl, (cE_v rfl), rfl⟩ (by rfl) (by simp [ofV])) ?_
    refine al_m rfl (m_alloc rfl rfl zv29 rfl rfl) ?_
    refine al_m rfl (m_store rfl rfl rfl rfl rfl rfl (cE_agg rfl) ty29 (by rfl) (by exact Nat.le_of_ble_eq_true rfl)) ?_
    refine al_nil ?_
    refine qt_normal ?_
    refine ac_seq ?_
    refine ac_seq ?_
    refine ac_region ?_
    refine al_y rfl rfl (y_indexAddr_arr rfl rfl rfl arr105 (by omega) (by omega)) ?_
    refine al_y rfl rfl (y_load1 rfl rfl rfl ty27) ?_
    refine al_y rfl rfl (y_len rfl rfl rfl Tryz.underlying27) ?_
    refine al_y rfl rfl (y_moveV rfl rfl) ?_
    refine al_nil ?_
    refine qt_normal ?_
    refine ac_block ?_
    refine ac_weak (weak_nilc (k := 1) (i := 0) (j := 1) rfl rfl rfl) ?_
    refine ac_loop (ι := { k : Nat // k ≤ npt m }) (fun k => ⟨Tryz.f22.ntmps, frL [(2, .pp 0 1 0 0), (6, .pub (.ptr [eInts (los m), eInts (his m)])), (7, .pp 1 1 0 0), (25, I (npt m : Int)), (26, I (k.1 : Int))], [.row [[I 0, nilE]], .row [[I m.wide, .psl 2 k.1]], .row ((List.range k.1).map (drE m))]⟩) (fun k => npt m - k.1) (⟨0, by omega⟩) ?_ ?_
    · exact weak_frM _ ⟨rfl, rfl, rfl, (congrArg (fun x : Nat => I (x : Int)) (by simp [los])), rfl, trivial⟩ (rfl)
    · rintro ⟨k, hk⟩
      dsimp only
      refine ac_seq ?_
      refine ac_region ?_
      refine al_y rfl rfl (y_lss rfl rfl rfl) ?_
      refine al_nil ?_
      refine qt_normal ?_
      refine ac_seq ?_
      refine ac_cond rfl (fun h1 => ?_) (fun h1 => ?_)
      · skip
        have hlt : k < npt m := by simpa using h1
        have hl1 : k < (los m).length := by rw [los_len]; exact hlt
        have hl2 : k < (his m).length := by rw [his_len]; exact hlt
        have hb1 := los_bd hm hl1
        have hb2 := his_bd hm hl2
        refine ac_skip ?_
        refine qt_normal ?_
        refine ac_seq ?_
        refine ac_block ?_
        refine ac_seq ?_
        refine ac_region ?_
        refine al_y rfl rfl (y_moveV rfl rfl) ?_
        refine al_y rfl rfl (y_assignV rfl rfl) ?_
        refine al_nil ?_
        refine qt_normal ?_
        refine ac_mix (fun m => ∃ rows, m[1]? = some (.row rows) ∧ rows.length = 1) (fun k => match k with | 0 => .stable | 2 => .stable | 3 => .stable | 4 => .stable | 5 => .stable | 6 => .stable | 7 => .stable | 8 => .stable | 9 => .stable | 10 => .stable | 11 => .stable | 12 => .stable | 13 => .stable | 15 => .writes | 16 => .stable | 17 => .writes | _ => .here) mixed (by kernel_rfl) rfl (by kernel_rfl) ⟨_, rfl, rfl⟩ ?_
        refine am_s rfl rfl (fun m hm => y_fieldAddr_pp rfl rfl hm.choose_spec.1 hm.choose_spec.2 fld29_1) ?_
        refine am_h rfl rfl (y_load_pp1 rfl rfl rfl rfl rfl rfl ty27) ?_
        refine am_s rfl rfl (fun m hm => y_indexAddr_arr rfl rfl rfl arr105 (by omega) (by omega)) ?_
        refine am_s rfl rfl (fun m hm => y_load1 rfl rfl rfl ty27) ?_
        refine am_s rfl rfl (fun m hm => y_moveV rfl rfl) ?_
        refine am_s rfl rfl (fun m hm => y_indexAddr rfl rfl rfl slc27 (by omega) (int_at hl1) int_len) ?_
        refine am_s rfl rfl (fun m hm => y_load1 rfl rfl rfl ty3) ?_
        refine am_s rfl rfl (fun m hm => y_indexAddr_arr rfl rfl rfl arr105 (by omega) (by omega)) ?_
        refine am_s rfl rfl (fun m hm => y_load1 rfl rfl rfl ty27) ?_
        refine am_s rfl rfl (fun m hm => y_moveV rfl rfl) ?_
        refine am_s rfl rfl (fun m hm => y_indexAddr rfl rfl rfl slc27 (by omega) (int_at hl2) int_len) ?_
        refine am_s rfl rfl (fun m hm => y_load1 rfl rfl rfl ty3) ?_
        refine am_s rfl rfl (fun m hm => y_add rfl rfl rfl ⟨(by omega), (by omega)⟩) ?_
        refine am_s rfl rfl (fun m hm => y_quo rfl rfl rfl ⟨(by omega), (by omega), (by omega)⟩) ?_
        refine am_h rfl rfl (y_buildSlice (size := 1) (rows := [[_]]) rfl Tryz.underlying27 ti3 rfl (by decide) rfl (by decide) ⟨_, _, rfl, (cE_v rfl), rfl⟩ (by rfl) (by simp [ofV]) rfl (by simp)) ?_
        refine am_w rfl rfl (opB_append rfl rfl rfl (by simp) rfl el27 (len_map1 fun _ => rfl) (by simp) (by simp; omega) (by unfold maxLen; simp; omega)) ⟨_, rfl, rfl⟩ ?_
        refine am_s rfl rfl (fun m hm => y_fieldAddr_pp rfl rfl hm.choose_spec.1 hm.choose_spec.2 fld29_1) ?_
        refine am_w rfl rfl (opB_store rfl rfl rfl rfl rfl rfl (cE_psl rfl rfl (by simp)) ty27 (by rfl) (by rfl)) ⟨_, rfl, rfl⟩ ?_
        refine am_nil ?_
        refine qb_normal ?_
        refine qt_normal ?_
        refine ac_region ?_
        refine al_y rfl rfl (y_add rfl rfl rfl ⟨(by omega), (by omega)⟩) ?_
        refine al_y rfl rfl (y_moveV rfl rfl) ?_
        refine al_nil ?_
        exact ⟨⟨k + 1, by omega⟩, by dsimp only; omega, weak_frM _ ⟨rfl, rfl, rfl, rfl, rfl, trivial⟩ (congrArg (fun z => [PO.row [[I 0, nilE]], PO.row [[I m.wide, .psl 2 (k + 1)]], PO.row z]) (dr_snoc hl1 hl2))⟩
      · skip
        have hge : npt m ≤ k := by simpa using h1
        have hk2 : k = npt m := by omega
        subst hk2
        refine ac_exit ?_
        refine qt_exit ?_
        refine qt_exit ?_
        refine qb_exit ?_
        refine qt_normal ?_
        refine ac_seq ?_
        refine ac_region ?_
        refine al_y rfl rfl (y_load_ppN rfl rfl rfl rfl rfl (by exact Nat.le_of_ble_eq_true rfl) rfl ty29) ?_
        refine al_m rfl (m_store rfl rfl rfl rfl rfl rfl (cE_mix rfl) ty29 (by rfl) (by exact Nat.le_of_ble_eq_true rfl)) ?_
        refine al_y rfl rfl (y_assignV rfl rfl) ?_
        refine al_nil ?_
        refine qt_normal ?_
        refine ac_ret ?_
        exact ⟨.inr rfl, ⟨_, rfl, ⟨_, _, rfl, (res_cell rfl rfl rfl rfl ty29 rfl ⟨_, _, rfl, AVle.refl _, ⟨_, _, rfl, ⟨((drawL m).map fun n => [AV.v (.int .i64 n)]), by show some (PO.row _) = some (PO.row _); simp [drawL, drE, Function.comp_def], by simp [drawL], rfl⟩, rfl⟩⟩), ⟨_, _, rfl, AVle.refl _, rfl⟩⟩⟩⟩
end Go.Av
end

section
namespace Go.Av
open Go.Proofs
set_option maxRecDepth 100000
set_option maxHeartbeats 1000000
set_option linter.unusedSimpArgs false
variable {G : Glob}

/-- Bounds, as the reference has them; its drawn field. -/
def eSpans (l : List (Int × Int)) : AV := .sl (l.map fun s => [.v (.int .i64 s.1), .v (.int .i64 s.2)])
def bds (m : Mp) : List (Int × Int) := (List.range (npt m)).map fun p : Nat => (loOf m.wide m.slope (p : Int) m.st, hiOf m.wide m.slope (p : Int) m.st)
def bdE (m : Mp) (p : Nat) : List EV := [I (loOf m.wide m.slope (p : Int) m.st), I (hiOf m.wide m.slope (p : Int) m.st)]
theorem bds_len (m : Mp) : (bds m).length = npt m := by simp [bds]
theorem bds_at {m : Mp} {k : Nat} (h : k < (bds m).length) : (bds m)[k] = (loOf m.wide m.slope (k : Int) m.st, hiOf m.wide m.slope (k : Int) m.st) := by simp [bds]
theorem span_at {l : List (Int × Int)} {k : Nat} (h : k < l.length) : (l.map fun s => [AV.v (.int .i64 s.1), AV.v (.int .i64 s.2)])[k]? = some [.v (.int .i64 l[k].1), .v (.int .i64 l[k].2)] := by simp [h]
theorem span_len {l : List (Int × Int)} : ∀ q ∈ l.map (fun s => [AV.v (.int .i64 s.1), AV.v (.int .i64 s.2)]), q.length = 2 := fun q hq => by
  obtain ⟨s, _, rfl⟩ := List.mem_map.1 hq; rfl
theorem bds_bd {m : Mp} (hm : okM m) {k : Nat} (h : k < (bds m).length) : 0 ≤ (bds m)[k].1 ∧ (bds m)[k].1 ≤ 99999 ∧ 0 ≤ (bds m)[k].2 ∧ (bds m)[k].2 ≤ 99999 := by
  have h' := h
  rw [bds_len] at h'
  have h1 := los_bd hm (k := k) (by rw [los_len]; exact h')
  have h2 := his_bd hm (k := k) (by rw [his_len]; exact h')
  rw [los_at] at h1; rw [his_at] at h2
  rw [bds_at h]; exact ⟨h1.1, h1.2, h2.1, h2.2⟩
theorem dr_snoc2 {m : Mp} {k : Nat} (h : k < (bds m).length) : (List.range k).map (drE m) ++ [[I (((bds m)[k].1 + (bds m)[k].2) / 2)]] = (List.range (k + 1)).map (drE m) := by
  rw [bds_at h]; exact range_snoc (drE m) k
theorem len_map2 {α : Type} {l : List α} {f : α → List EV} (h : ∀ a, (f a).length = 2) : ∀ r ∈ l.map f, r.length = 2 := fun r hr => by
  obtain ⟨a, _, rfl⟩ := List.mem_map.1 hr; exact h a
theorem same_take {l r : List Int} {k : Nat} (h : l.take k = r.take k) (h1 : k < l.length) (h2 : k < r.length) (he : l[k] = r[k]) : l.take (k + 1) = r.take (k + 1) := by
  rw [List.take_succ_eq_append_getElem h1, List.take_succ_eq_append_getElem h2, h, he]

/-- isobarref03.Bounds -/
theorem f53 (m : Mp) (hm : okM m) : ACall Tryz.prog G 53 [.agg (eMp m)] (eSpans (bds m)) := by
  have hn := npt_bd hm
  have ho := hm
  obtain ⟨m1, m2, m3, m4, m5, m6, m7, m8⟩ := ho
  have har := area m1 m2 m3 m4
  refine acall_of Tryz.func53 rfl (by kernel_rfl) rfl ?_
  refine ac_seq ?_
  refine ac_region ?_
  refine al_y rfl rfl (y_box rfl (cE_agg rfl)) ?_
  refine al_y rfl rfl (y_assignV rfl rfl) ?_
  refine al_nil ?_
  refine qt_normal ?_
  refine ac_seq ?_
  refine ac_region ?_
  refine al_y rfl rfl (y_assignV rfl rfl) ?_
  refine al_nil ?_
  refine qt_normal ?_
  refine ac_seq ?_
  refine ac_seq ?_
  refine ac_region ?_
  refine al_y rfl rfl (y_assignV rfl rfl) ?_
  refine al_nil ?_
  refine qt_normal ?_
  refine ac_block ?_
  refine ac_weak (weak_nil 3 rfl) ?_
  refine ac_loop (ι := { k : Nat // k ≤ npt m }) (fun k => ⟨Tryz.f53.ntmps, frL [(1, .pub (.ptr (eMp m))), (3, .psl 0 k.1), (4, I (k.1 : Int))], [.row ((List.range k.1).map (bdE m))]⟩) (fun k => npt m - k.1) (⟨0, by omega⟩) ?_ ?_
  · exact weak_frM _ ⟨rfl, rfl, rfl, trivial⟩ (rfl)
  · rintro ⟨k, hk⟩
    dsimp only
    refine ac_seq ?_
    refine ac_seq ?_
    refine ac_region ?_
    refine al_y rfl rfl (y_moveV rfl rfl) ?_
    refine al_y rfl rfl (y_fieldAddr rfl rfl fld24_0) ?_
    refine al_y rfl rfl (y_load1 rfl rfl rfl ty3) ?_
    refine al_y rfl rfl (y_fieldAddr rfl rfl fld24_1) ?_
    refine al_y rfl rfl (y_load1 rfl rfl rfl ty3) ?_
    refine al_y rfl rfl (y_mul rfl rfl rfl ⟨(by omega), (by omega)⟩) ?_
    refine al_y rfl rfl (y_lss rfl rfl rfl) ?_
    refine al_nil ?_
    refine qt_normal ?_
    refine ac_cond rfl (fun h0 => ?_) (fun h0 => ?_)
    · skip
      have hlt : k < npt m := by have := of_decide_eq_true h0; omega
      refine ac_skip ?_
      refine qt_normal ?_
      refine ac_seq ?_
      refine ac_block ?_
      refine ac_region ?_
      refine al_y rfl rfl (y_moveS rfl rfl) ?_
      refine al_y rfl rfl (y_loadN rfl rfl ty24 (by exact Nat.le_of_ble_eq_true rfl)) ?_
      refine al_y rfl rfl (y_moveV rfl rfl) ?_
      refine al_y rfl rfl (y_callF (av := [_, _]) rfl ⟨rfl, rfl, trivial⟩ (f92 m _ hm (by omega))) ?_
      refine al_y rfl rfl (y_buildSlice (size := 2) (rows := [[_, _]]) rfl Tryz.underlying79 ti76 rfl (by decide) rfl (by decide) ⟨_, _, rfl, (cE_agg rfl), rfl⟩ (by rfl) (by simp [ofV]) rfl (by simp)) ?_
      refine al_m rfl (m_append rfl rfl rfl rfl (by simp) rfl el79 (len_map2 fun _ => rfl) (by simp) (by simp; omega) (by unfold maxLen; simp; omega)) ?_
      refine al_y rfl rfl (y_assignS rfl rfl) ?_
      refine al_nil ?_
      refine qb_normal ?_
      refine qt_normal ?_
      refine ac_region ?_
      refine al_y rfl rfl (y_moveV rfl rfl) ?_
      refine al_y rfl rfl (y_add rfl rfl rfl ⟨(by omega), (by omega)⟩) ?_
      refine al_y rfl rfl (y_assignV rfl rfl) ?_
      refine al_nil ?_
      exact ⟨⟨k + 1, by omega⟩, by dsimp only; omega, weak_frM _ ⟨rfl, rfl, rfl, trivial⟩ (congrArg (fun z => [PO.row z]) (range_snoc (bdE m) k))⟩
    · skip
      have hge : npt m ≤ k := by have := of_decide_eq_false h0; omega
      have hk2 : k = npt m := by omega
      subst hk2
      refine ac_exit ?_
      refine qt_exit ?_
      refine qt_exit ?_
      refine qb_exit ?_
      refine qt_normal ?_
      refine ac_seq ?_
      refine ac_region ?_
      refine al_y rfl rfl (y_moveS rfl rfl) ?_
      refine al_y rfl rfl (y_assignS rfl rfl) ?_
      refine al_nil ?_
      refine qt_normal ?_
      refine ac_ret ?_
      exact ⟨.inr rfl, ⟨((bds m).map fun s => [AV.v (.int .i64 s.1), AV.v (.int .i64 s.2)]), by show some (PO.row _) = some (PO.row _); simp [bds, bdE, Function.comp_def], by simp [bds], rfl⟩⟩

/-- isobarref03.Draw -/
theorem f25 (m : Mp) (hm : okM m) : ACall Tryz.prog G 25 [.agg (eMp m)] (.agg (eFld (drawF m))) := by
  have hn := npt_bd hm
  have ho := hm
  obtain ⟨m1, m2, m3, m4, m5, m6, m7, m8⟩ := ho
  have har := area m1 m2 m3 m4
  refine acall_of Tryz.func25 rfl (by kernel_rfl) rfl ?_
  refine ac_seq ?_
  refine ac_region ?_
  refine al_y rfl rfl (y_box rfl (cE_agg rfl)) ?_
  refine al_m rfl (m_alloc rfl rfl zv29 rfl rfl) ?_
  refine al_nil ?_
  refine qt_normal ?_
  refine ac_seq ?_
  refine ac_region ?_
  refine al_y rfl rfl (y_loadN rfl rfl ty24 (by exact Nat.le_of_ble_eq_true rfl)) ?_
  refine al_y rfl rfl (y_callF (av := [_]) rfl ⟨rfl, trivial⟩ (f53 m hm)) ?_
  refine al_y rfl rfl (y_assignP rfl rfl) ?_
  refine al_nil ?_
  refine qt_normal ?_
  refine ac_seq ?_
  refine ac_region ?_
  refine al_y rfl rfl (y_fieldAddr rfl rfl fld24_0) ?_
  refine al_y rfl rfl (y_load1 rfl rfl rfl ty3) ?_
  refine al_y rfl rfl (y_build (cs := [_, _]) rfl st29 rfl ⟨_, _, rfl, (cE_v rfl), rfl⟩ (by rfl) (by simp [ofV])) ?_
  refine al_m rfl (m_alloc rfl rfl zv29 rfl rfl) ?_
  refine al_m rfl (m_store rfl rfl rfl rfl rfl rfl (cE_agg rfl) ty29 (by rfl) (by exact Nat.le_of_ble_eq_true rfl)) ?_
  refine al_nil ?_
  refine qt_normal ?_
  refine ac_seq ?_
  refine ac_seq ?_
  refine ac_region ?_
  refine al_y rfl rfl (y_assignV rfl rfl) ?_
  refine al_nil ?_
  refine qt_normal ?_
  refine ac_block ?_
  refine ac_weak (weak_nilc (k := 1) (i := 0) (j := 1) rfl rfl rfl) ?_
  refine ac_loop (ι := { k : Nat // k ≤ npt m }) (fun k => ⟨Tryz.f25.ntmps, frL [(2, .pp 0 1 0 0), (3, .pub (eSpans (bds m))), (4, .pp 1 1 0 0), (5, I (k.1 : Int))], [.row [[I 0, nilE]], .row [[I m.wide, .psl 2 k.1]], .row ((List.range k.1).map (drE m))]⟩) (fun k => npt m - k.1) (⟨0, by omega⟩) ?_ ?_
  · exact weak_frM _ ⟨rfl, rfl, rfl, rfl, trivial⟩ (rfl)
  · rintro ⟨k, hk⟩
    dsimp only
    refine ac_seq ?_
    refine ac_seq ?_
    refine ac_region ?_
    refine al_y rfl rfl (y_moveV rfl rfl) ?_
    refine al_y rfl rfl (y_moveP rfl rfl) ?_
    refine al_y rfl rfl (y_len rfl rfl rfl Tryz.underlying79) ?_
    refine al_y rfl rfl (y_lss rfl rfl rfl) ?_
    refine al_nil ?_
    refine qt_normal ?_
    refine ac_cond rfl (fun h0 => ?_) (fun h0 => ?_)
    · skip
      have hlt : k < (bds m).length := by simpa using h0
      have hlt2 : k < npt m := by rw [bds_len] at hlt; exact hlt
      have hb := bds_bd hm hlt
      refine ac_skip ?_
      refine qt_normal ?_
      refine ac_seq ?_
      refine ac_block ?_
      refine ac_mix (fun m => ∃ rows, m[1]? = some (.row rows) ∧ rows.length = 1) (fun k => match k with | 0 => .stable | 2 => .stable | 3 => .stable | 4 => .stable | 5 => .stable | 6 => .stable | 7 => .stable | 8 => .stable | 9 => .stable | 10 => .stable | 11 => .stable | 12 => .stable | 13 => .stable | 15 => .writes | 16 => .stable | 17 => .writes | _ => .here) mixed (by kernel_rfl) rfl (by kernel_rfl) ⟨_, rfl, rfl⟩ ?_
      refine am_s rfl rfl (fun m hm => y_fieldAddr_pp rfl rfl hm.choose_spec.1 hm.choose_spec.2 fld29_1) ?_
      refine am_h rfl rfl (y_load_pp1 rfl rfl rfl rfl rfl rfl ty27) ?_
      refine am_s rfl rfl (fun m hm => y_moveP rfl rfl) ?_
      refine am_s rfl rfl (fun m hm => y_moveV rfl rfl) ?_
      refine am_s rfl rfl (fun m hm => y_indexAddr rfl rfl rfl slc79 (by omega) (span_at hlt) span_len) ?_
      refine am_s rfl rfl (fun m hm => y_fieldAddr rfl rfl fld76_0) ?_
      refine am_s rfl rfl (fun m hm => y_load1 rfl rfl rfl ty3) ?_
      refine am_s rfl rfl (fun m hm => y_moveP rfl rfl) ?_
      refine am_s rfl rfl (fun m hm => y_moveV rfl rfl) ?_
      refine am_s rfl rfl (fun m hm => y_indexAddr rfl rfl rfl slc79 (by omega) (span_at hlt) span_len) ?_
      refine am_s rfl rfl (fun m hm => y_fieldAddr rfl rfl fld76_1) ?_
      refine am_s rfl rfl (fun m hm => y_load1 rfl rfl rfl ty3) ?_
      refine am_s rfl rfl (fun m hm => y_add rfl rfl rfl ⟨(by omega), (by omega)⟩) ?_
      refine am_s rfl rfl (fun m hm => y_quo rfl rfl rfl ⟨(by omega), (by omega), (by omega)⟩) ?_
      refine am_h rfl rfl (y_buildSlice (size := 1) (rows := [[_]]) rfl Tryz.underlying27 ti3 rfl (by decide) rfl (by decide) ⟨_, _, rfl, (cE_v rfl), rfl⟩ (by rfl) (by simp [ofV]) rfl (by simp)) ?_
      refine am_w rfl rfl (opB_append rfl rfl rfl (by simp) rfl el27 (len_map1 fun _ => rfl) (by simp) (by simp; omega) (by unfold maxLen; simp; omega)) ⟨_, rfl, rfl⟩ ?_
      refine am_s rfl rfl (fun m hm => y_fieldAddr_pp rfl rfl hm.choose_spec.1 hm.choose_spec.2 fld29_1) ?_
      refine am_w rfl rfl (opB_store rfl rfl rfl rfl rfl rfl (cE_psl rfl rfl (by simp)) ty27 (by rfl) (by rfl)) ⟨_, rfl, rfl⟩ ?_
      refine am_nil ?_
      refine qb_normal ?_
      refine qt_normal ?_
      refine ac_region ?_
      refine al_y rfl rfl (y_moveV rfl rfl) ?_
      refine al_y rfl rfl (y_add rfl rfl rfl ⟨(by omega), (by omega)⟩) ?_
      refine al_y rfl rfl (y_assignV rfl rfl) ?_
      refine al_nil ?_
      exact ⟨⟨k + 1, by omega⟩, by dsimp only; omega, weak_frM _ ⟨rfl, rfl, rfl, rfl, trivial⟩ (congrArg (fun z => [PO.row [[I 0, nilE]], PO.row [[I m.wide, .psl 2 (k + 1)]], PO.row z]) (dr_snoc2 hlt))⟩
    · skip
      have hge : (bds m).length ≤ k := by simpa using h0
      have hk2 : k = npt m := by rw [bds_len] at hge; omega
      subst hk2
      refine ac_exit ?_
      refine qt_exit ?_
      refine qt_exit ?_
      refine qb_exit ?_
      refine qt_normal ?_
      refine ac_seq ?_
      refine ac_region ?_
      refine al_y rfl rfl (y_load_ppN rfl rfl rfl rfl rfl (by exact Nat.le_of_ble_eq_true rfl) rfl ty29) ?_
      refine al_m rfl (m_store rfl rfl rfl rfl rfl rfl (cE_mix rfl) ty29 (by rfl) (by exact Nat.le_of_ble_eq_true rfl)) ?_
      refine al_nil ?_
      refine qt_normal ?_
      refine ac_ret ?_
      exact ⟨.inr rfl, ret_one rfl (res_cell rfl rfl rfl rfl ty29 rfl ⟨_, _, rfl, AVle.refl _, ⟨_, _, rfl, ⟨((drawL m).map fun n => [AV.v (.int .i64 n)]), by show some (PO.row _) = some (PO.row _); simp [drawL, drE, Function.comp_def], by simp [drawL], rfl⟩, rfl⟩⟩)⟩

/-- isobarref03.Same -/
theorem f66 (l r : List Int) (hl : l.length ≤ 1000) (hr : r.length ≤ 1000) : ACall Tryz.prog G 66 [eInts l, eInts r] (.v (.bool (decide (l = r)))) := by
  refine acall_of Tryz.func66 rfl (by kernel_rfl) rfl ?_
  refine ac_seq ?_
  refine ac_region ?_
  refine al_y rfl rfl (y_assignV rfl rfl) ?_
  refine al_nil ?_
  refine qt_normal ?_
  refine ac_seq ?_
  refine ac_seq ?_
  refine ac_region ?_
  refine al_y rfl rfl (y_moveP rfl rfl) ?_
  refine al_y rfl rfl (y_len rfl rfl rfl Tryz.underlying27) ?_
  refine al_y rfl rfl (y_moveP rfl rfl) ?_
  refine al_y rfl rfl (y_len rfl rfl rfl Tryz.underlying27) ?_
  refine al_y rfl rfl (y_neq rfl rfl rfl) ?_
  refine al_nil ?_
  refine qt_normal ?_
  refine ac_cond rfl (fun h0 => ?_) (fun h0 => ?_)
  · skip
    have hne : l.length ≠ r.length := by simp at h0; omega
    refine ac_seq ?_
    refine ac_region ?_
    refine al_y rfl rfl (y_assignV rfl rfl) ?_
    refine al_nil ?_
    refine qt_normal ?_
    refine ac_ret ?_
    refine qt_ret ?_
    exact ⟨.inr rfl, AVle.of (by rw [decide_eq_false (fun e => hne (by rw [e]))])⟩
  · skip
    have he : l.length = r.length := by simp at h0; omega
    refine ac_skip ?_
    refine qt_normal ?_
    refine ac_seq ?_
    refine ac_seq ?_
    refine ac_region ?_
    refine al_y rfl rfl (y_assignV rfl rfl) ?_
    refine al_nil ?_
    refine qt_normal ?_
    refine ac_block ?_
    refine ac_loop (ι := { k : Nat // k ≤ l.length ∧ l.take k = r.take k }) (fun k => ⟨Tryz.f66.ntmps, frL [(0, .pub (eInts l)), (1, .pub (eInts r)), (5, I (k.1 : Int))], []⟩) (fun k => l.length - k.1) (⟨0, by simp⟩) ?_ ?_
    · exact weak_frM _ ⟨rfl, rfl, rfl, trivial⟩ (rfl)
    · rintro ⟨k, hk⟩
      dsimp only
      refine ac_seq ?_
      refine ac_seq ?_
      refine ac_region ?_
      refine al_y rfl rfl (y_moveV rfl rfl) ?_
      refine al_y rfl rfl (y_moveP rfl rfl) ?_
      refine al_y rfl rfl (y_len rfl rfl rfl Tryz.underlying27) ?_
      refine al_y rfl rfl (y_lss rfl rfl rfl) ?_
      refine al_nil ?_
      refine qt_normal ?_
      refine ac_cond rfl (fun h1 => ?_) (fun h1 => ?_)
      · skip
        have hlt : k < l.length := by simpa using h1
        have hlt2 : k < r.length := by omega
        refine ac_skip ?_
        refine qt_normal ?_
        refine ac_seq ?_
        refine ac_block ?_
        refine ac_seq ?_
        refine ac_draw mixed (by kernel_rfl) rfl ?_
        refine aq_y rfl (y_moveP rfl rfl) ?_
        refine aq_y rfl (y_moveV rfl rfl) ?_
        refine aq_y rfl (y_indexAddr rfl rfl rfl slc27 (by omega) (int_at hlt) int_len) ?_
        refine aq_y rfl (y_load1 rfl rfl rfl ty3) ?_
        refine aq_y rfl (y_moveP rfl rfl) ?_
        refine aq_y rfl (y_moveV rfl rfl) ?_
        refine aq_y rfl (y_indexAddr rfl rfl rfl slc27 (by omega) (int_at hlt2) int_len) ?_
        refine aq_y rfl (y_load1 rfl rfl rfl ty3) ?_
        refine aq_y rfl (y_neq rfl rfl rfl) ?_
        refine aq_nil ?_
        refine qt_normal ?_
        refine ac_cond rfl (fun h2 => ?_) (fun h2 => ?_)
        · skip
          have hd : l[k] ≠ r[k] := by simpa using h2
          refine ac_seq ?_
          refine ac_region ?_
          refine al_y rfl rfl (y_assignV rfl rfl) ?_
          refine al_nil ?_
          refine qt_normal ?_
          refine ac_ret ?_
          refine qb_ret ?_
          refine qt_ret ?_
          refine qt_ret ?_
          refine qb_ret ?_
          refine qt_ret ?_
          exact ⟨.inr rfl, AVle.of (by rw [decide_eq_false (fun e => hd (by subst e; rfl))])⟩
        · skip
          have hd : l[k] = r[k] := by simpa using h2
          refine ac_skip ?_
          refine qb_normal ?_
          refine qt_normal ?_
          refine ac_region ?_
          refine al_y rfl rfl (y_moveV rfl rfl) ?_
          refine al_y rfl rfl (y_add rfl rfl rfl ⟨(by omega), (by omega)⟩) ?_
          refine al_y rfl rfl (y_assignV rfl rfl) ?_
          refine al_nil ?_
          exact ⟨⟨k + 1, by omega, same_take hk.2 hlt hlt2 hd⟩, by dsimp only; omega, weak_frM _ ⟨rfl, rfl, rfl, trivial⟩ (rfl)⟩
      · skip
        have hge : l.length ≤ k := by simpa using h1
        refine ac_exit ?_
        refine qt_exit ?_
        refine qt_exit ?_
        refine qb_exit ?_
        refine qt_normal ?_
        refine ac_seq ?_
        refine ac_region ?_
        refine al_y rfl rfl (y_assignV rfl rfl) ?_
        refine al_nil ?_
        refine qt_normal ?_
        refine ac_ret ?_
        exact ⟨.inr rfl, AVle.of (by have h := hk.2; rw [List.take_of_length_le hge, List.take_of_length_le (by omega)] at h; rw [decide_eq_true h])⟩

def sameF (f g : Fld) : Bool := (f.wide == g.wide) && decide (f.vals = g.vals)

/-- isobarref03.SameField -/
theorem f24 (f g : Fld) (hf : f.vals.length ≤ 1000) (hg : g.vals.length ≤ 1000) : ACall Tryz.prog G 24 [.agg (eFld f), .agg (eFld g)] (.v (.bool (sameF f g))) := by
  refine acall_of Tryz.func24 rfl (by kernel_rfl) rfl ?_
  refine ac_seq ?_
  refine ac_region ?_
  refine al_y rfl rfl (y_box rfl (cE_agg rfl)) ?_
  refine al_y rfl rfl (y_box rfl (cE_agg rfl)) ?_
  refine al_y rfl rfl (y_assignV rfl rfl) ?_
  refine al_nil ?_
  refine qt_normal ?_
  refine ac_seq ?_
  refine ac_region ?_
  refine al_y rfl rfl (y_fieldAddr rfl rfl fld29_0) ?_
  refine al_y rfl rfl (y_load1 rfl rfl rfl ty3) ?_
  refine al_y rfl rfl (y_fieldAddr rfl rfl fld29_0) ?_
  refine al_y rfl rfl (y_load1 rfl rfl rfl ty3) ?_
  refine al_y rfl rfl (y_eql rfl rfl rfl) ?_
  refine al_y rfl rfl (y_moveV rfl rfl) ?_
  refine al_maybe rfl rfl rfl (fun hg => y_fieldAddr rfl rfl fld29_1) ?_
  refine al_maybe rfl rfl rfl (fun hg => y_load1 rfl (if_pos hg) rfl ty27) ?_
  refine al_maybe rfl rfl rfl (fun hg => y_fieldAddr rfl rfl fld29_1) ?_
  refine al_maybe rfl rfl rfl (fun hg => y_load1 rfl (if_pos hg) rfl ty27) ?_
  refine al_maybe rfl rfl rfl (fun hg => y_callF (av := [_, _]) rfl ⟨((if_pos hg)), ((if_pos hg)), trivial⟩ (f66 f.vals g.vals (by omega) (by assumption))) ?_
  refine al_y rfl rfl (y_and rfl rfl rfl rfl) ?_
  refine al_y rfl rfl (y_assignV rfl rfl) ?_
  refine al_nil ?_
  refine qt_normal ?_
  refine ac_ret ?_
  exact ⟨.inr rfl, AVle.refl _⟩

def contraB (m : Mp) (a b : Stn) : Bool := decide (m.slope * dist m.wide a.pt b.pt < max (a.lo - b.hi) (b.lo - a.hi))
theorem contra_apart (m : Mp) (a b : Stn) : contraB m a b = apartB m a b := by
  rw [Bool.eq_iff_iff]; simp only [contraB, apartB, Bool.or_eq_true, decide_eq_true_eq]; omega

/-- isobarref03.Contradict -/
theorem f102 (m : Mp) (hm : okM m) (i j : Nat) (hi : i < m.st.length) (hj : j < m.st.length) : ACall Tryz.prog G 102 [.agg (eMp m), .v (.int .i64 (i : Int)), .v (.int .i64 (j : Int))] (.v (.bool (pairB m i j))) := by
  obtain ⟨a1, a2, a3, a4, a5, a6⟩ := hm.st _ (List.getElem_mem hi)
  obtain ⟨b1, b2, b3, b4, b5, b6⟩ := hm.st _ (List.getElem_mem hj)
  obtain ⟨m1, m2, m3, m4, m5, m6, m7, m8⟩ := hm
  have hd := dist_bd (N := 30) (w := m.wide) (a := m.st[i].pt) (b := m.st[j].pt) m1 (by omega) (by omega)
  have hsd := sd_bd m5 m6 hd.1 (by omega : dist m.wide m.st[i].pt m.st[j].pt ≤ 100)
  refine acall_of Tryz.func102 rfl (by kernel_rfl) rfl ?_
  refine ac_seq ?_
  refine ac_region ?_
  refine al_y rfl rfl (y_box rfl (cE_agg rfl)) ?_
  refine al_y rfl rfl (y_assignV rfl rfl) ?_
  refine al_nil ?_
  refine qt_normal ?_
  refine ac_seq ?_
  refine ac_weak weak_hole ?_
  refine ac_weak weak_hole ?_
  refine ac_mix (fun _ => True) (fun k => match k with | 0 => .stable | 1 => .stable | 2 => .stable | 3 => .stable | 4 => .stable | 5 => .stable | 6 => .stable | 7 => .stable | 8 => .stable | 9 => .stable | 10 => .own 0 | 11 => .own 1 | 12 => .writes | 13 => .writes | _ => .here) mixed (by kernel_rfl) rfl (by kernel_rfl) trivial ?_
  refine am_s rfl rfl (fun m hm => y_fieldAddr rfl rfl fld24_3) ?_
  refine am_s rfl rfl (fun m hm => y_load1 rfl rfl rfl ty22) ?_
  refine am_s rfl rfl (fun m hm => y_moveV rfl rfl) ?_
  refine am_s rfl rfl (fun m hm => y_indexAddr rfl rfl rfl slc22 (by omega) (row_at hi) stn_len) ?_
  refine am_s rfl rfl (fun m hm => y_loadN rfl rfl ty78 (by exact Nat.le_of_ble_eq_true rfl)) ?_
  refine am_s rfl rfl (fun m hm => y_fieldAddr rfl rfl fld24_3) ?_
  refine am_s rfl rfl (fun m hm => y_load1 rfl rfl rfl ty22) ?_
  refine am_s rfl rfl (fun m hm => y_moveV rfl rfl) ?_
  refine am_s rfl rfl (fun m hm => y_indexAddr rfl rfl rfl slc22 (by omega) (row_at hj) stn_len) ?_
  refine am_s rfl rfl (fun m hm => y_loadN rfl rfl ty78 (by exact Nat.le_of_ble_eq_true rfl)) ?_
  refine am_o rfl rfl (opB_alloc rfl zv78 rfl rfl rfl) ?_
  refine am_o rfl rfl (opB_alloc rfl zv78 rfl rfl rfl) ?_
  refine am_w rfl rfl (opB_store rfl rfl rfl rfl rfl rfl (cE_agg rfl) ty78 (by rfl) (by rfl)) trivial ?_
  refine am_w rfl rfl (opB_store rfl rfl rfl rfl rfl rfl (cE_agg rfl) ty78 (by rfl) (by rfl)) trivial ?_
  refine am_nil ?_
  refine qt_normal ?_
  refine ac_seq ?_
  refine ac_draw mixed (by kernel_rfl) rfl ?_
  refine aq_y rfl (y_fieldAddr_pp rfl rfl rfl rfl fld78_1) ?_
  refine aq_y rfl (y_fieldAddr_pp rfl rfl rfl rfl fld76_0) ?_
  refine aq_y rfl (y_load_pp1 rfl rfl rfl rfl rfl rfl ty3) ?_
  refine aq_y rfl (y_fieldAddr_pp rfl rfl rfl rfl fld78_1) ?_
  refine aq_y rfl (y_fieldAddr_pp rfl rfl rfl rfl fld76_1) ?_
  refine aq_y rfl (y_load_pp1 rfl rfl rfl rfl rfl rfl ty3) ?_
  refine aq_y rfl (y_sub rfl rfl rfl ⟨(by omega), (by omega)⟩) ?_
  refine aq_y rfl (y_fieldAddr_pp rfl rfl rfl rfl fld78_1) ?_
  refine aq_y rfl (y_fieldAddr_pp rfl rfl rfl rfl fld76_0) ?_
  refine aq_y rfl (y_load_pp1 rfl rfl rfl rfl rfl rfl ty3) ?_
  refine aq_y rfl (y_fieldAddr_pp rfl rfl rfl rfl fld78_1) ?_
  refine aq_y rfl (y_fieldAddr_pp rfl rfl rfl rfl fld76_1) ?_
  refine aq_y rfl (y_load_pp1 rfl rfl rfl rfl rfl rfl ty3) ?_
  refine aq_y rfl (y_sub rfl rfl rfl ⟨(by omega), (by omega)⟩) ?_
  refine aq_y rfl (y_max rfl rfl rfl) ?_
  refine aq_y rfl (y_fieldAddr rfl rfl fld24_2) ?_
  refine aq_y rfl (y_load1 rfl rfl rfl ty3) ?_
  refine aq_y rfl (y_fieldAddr rfl rfl fld24_0) ?_
  refine aq_y rfl (y_load1 rfl rfl rfl ty3) ?_
  refine aq_y rfl (y_fieldAddr_pp rfl rfl rfl rfl fld78_0) ?_
  refine aq_y rfl (y_load_pp1 rfl rfl rfl rfl rfl rfl ty3) ?_
  refine aq_y rfl (y_fieldAddr_pp rfl rfl rfl rfl fld78_0) ?_
  refine aq_y rfl (y_load_pp1 rfl rfl rfl rfl rfl rfl ty3) ?_
  refine aq_y rfl (y_callF (av := [_, _, _]) rfl ⟨rfl, rfl, rfl, trivial⟩ (f55 _ _ _ (by omega) (by omega) (by omega))) ?_
  refine aq_y rfl (y_mul rfl rfl rfl ⟨(by omega), (by omega)⟩) ?_
  refine aq_y rfl (y_gtr rfl rfl rfl) ?_
  refine aq_y rfl (y_assignV rfl rfl) ?_
  refine aq_nil ?_
  refine qt_normal ?_
  refine ac_ret ?_
  exact ⟨.inr rfl, AVle.of (by rw [pairB_at hi hj, ← contra_apart]; rfl)⟩
end Go.Av
end
