/- WireRestores. -/
import Derived.Test.YtaphehlgijlfeaaGreatDoorWiR
import Derived.Test.YtaphehlgijlfeaaGreatDoorWiP
set_option linter.unusedVariables false
set_option linter.unusedSimpArgs false
section
namespace Go.Av
open Go.Proofs
set_option maxRecDepth 100000
set_option maxHeartbeats 1000000
set_option linter.unusedSimpArgs false
variable {G : Glob}
theorem ti34 : Tryz.prog.info? 34 = some Tryz.t34 := by kernel_rfl

theorem res_chk {b1 b2 b3 b4 b5 b6 : Bool} (h1 : b1 = false) (h2 : b2 = true) (h3 : b3 = false) (h4 : ((b4 || b5) && b6) = false) : (((b1 || !b2) || b3) || ((b4 || b5) && b6)) = false := by subst h1; subst h2; subst h3; rw [h4]; rfl
theorem putW_eq2 (w : List UInt8) (p s : Nat) : (((w.take (p : Int).toNat).drop (0 : Int).toNat) ++ ([48 + (s : Int)].map fun n => UInt8.ofNat n.toNat)) ++ ((w.take (w.length : Int).toNat).drop ((p : Int) + 1).toNat) = putW w p (UInt8.ofNat (48 + s)) := by
  rw [← putW_eq]
  have e : (48 + (s : Int)).toNat = 48 + s := by omega
  simp only [List.map_cons, List.map_nil, e]
theorem grp_ch {m : List Int} {o a : Nat} (ho : o ≤ m.length) (ha : a < 5) : ((grpsS m).getD o [])[a]? = some (chD (dg m a o)) := by
  have hl : o < (grps m).length := by simp [grps]; omega
  have e : (grpsS m).getD o [] = ((grps m)[o]).chs := by
    simp only [grpsS, List.getD_eq_getElem?_getD, List.getElem?_map, List.getElem?_eq_getElem hl]; rfl
  rw [e, chs_at ha, figA_grps hl ha]
theorem gL {a b x : Bool} (h : (!((!a || b) || !x)) = true) : b = false := by revert h; cases a <;> cases b <;> cases x <;> simp
theorem res_len {m : List Int} (h : decide ((6 : Int) < (((m.map fun n => [AV.v (.int .i64 n)]).length : Nat) : Int)) = false) : m.length ≤ 1000 := by simp at h; omega
theorem res_split {s l c m a1 a2 a3 a4 a5 a6 a7 a8 a9 b1 : Bool} (h : (((((((((((((!s || l) || !c) || !m) || a1) || a2) || a3) || a4) || a5) || a6) || a7) || a8) || a9) || b1) = false) : s = true ∧ l = false ∧ c = true ∧ m = true ∧ a1 = false ∧ a2 = false ∧ a3 = false ∧ a4 = false ∧ a5 = false ∧ a6 = false ∧ a7 = false ∧ a8 = false ∧ a9 = false ∧ b1 = false := by
  simp only [Bool.or_eq_false_iff, Bool.not_eq_false'] at h
  obtain ⟨⟨⟨⟨⟨⟨⟨⟨⟨⟨⟨⟨⟨h1, h2⟩, h3⟩, h4⟩, h5⟩, h6⟩, h7⟩, h8⟩, h9⟩, h10⟩, h11⟩, h12⟩, h13⟩, h14⟩ := h
  exact ⟨h1, h2, h3, h4, h5, h6, h7, h8, h9, h10, h11, h12, h13, h14⟩
theorem gS2 {a b : Bool} (h : (!(!a || b)) = true) : a = true := by revert h; cases a <;> cases b <;> simp
theorem eIntss_lenI (L : List (List Int)) : (((L.map fun m => [eInts m]).length : Nat) : Int) = (L.length : Int) := by rw [List.length_map]

/-- isobarlaw02.WireRestores -/
theorem f4_main (hk : KN G) (c : Cod) (m : List Int) (o a o2 t s : Nat) (hs : shortB c = true) (hl : m.length ≤ 6) (hc : codB c = true) (hm : msgB c m = true) (ho : o ≤ m.length) (ha : a < 5) (ho2 : o2 ≤ m.length) (ht : t < 5) (hs9 : s ≤ 9) : ACall Tryz.prog G 4 [.agg (eCod c), eInts m, ei (o : Int), ei (a : Int), ei (o2 : Int), ei (t : Int), ei (s : Int)] (.v (.bool true)) := by
  have z1 := shortB_sz hs
  have hcb := cod_bd hc
  have hml := msg_len hm
  have hb := msg_bd' hc hm
  have hcp := hol_cop (c := c) hm ho ha ho2 ht
  have hc0 := codB_mst hc (show (0 : Int) ≤ 0 by omega) hcb.2.1
  have ask0 : askE (mst c 0) [(holL m o a o2 t)] = 0 := askE_ok hc0 (by simp) (by simp) (by intro g hg2; rw [List.mem_singleton] at hg2; subst hg2; exact hcp)
  have hL0 : fndL (mst c 0) [(holL m o a o2 t)] = msgs (mst c 0) [(holL m o a o2 t)] := by unfold fndL; rw [if_pos ask0]
  have hin := hol_has hc hm ho ha ho2 ht
  have hE0 : fndE (mst c 0) [(holL m o a o2 t)] = 0 := by
    unfold fndE
    rw [if_pos ask0, if_neg (fun e => by rw [e] at hin; cases hin)]
  have h10 := hol_ten hc hm ho ha ho2 ht
  have h1L := hol_one hc hm ho ha ho2 ht
  rw [← hL0] at hin h10 h1L
  have hdb := dg_bd m a o
  have hch := chD_nat hdb
  obtain ⟨hw, hw1, hw2⟩ := turn_at hc hdb
  have w1 : ((grpsS m).getD o []).length = 5 := getD_5 (by rw [grpsS_n]; omega) (grpsS_5 m)
  have pcp := put_cop (c := c) hm ho ha hs9
  have askS : askE c [(putL (grpsS m) o a (UInt8.ofNat (48 + s)))] = 0 := askE_ok hc (by simp) (by simp) (by intro g hg2; rw [List.mem_singleton] at hg2; subst hg2; exact pcp.1)
  have hLS : fndL c [(putL (grpsS m) o a (UInt8.ofNat (48 + s)))] = msgs c [(putL (grpsS m) o a (UInt8.ofNat (48 + s)))] := by unfold fndL; rw [if_pos askS]
  refine acall_of Tryz.func4 rfl (by kernel_rfl) rfl ?_
  refine ac_seq ?_
  refine ac_region ?_
  refine al_y rfl rfl (y_box rfl (cE_agg rfl)) ?_
  refine al_y rfl rfl (y_assignV rfl rfl) ?_
  refine al_nil ?_
  refine qt_normal ?_
  refine ac_seq ?_
  refine ac_seq ?_
  refine ac_region ?_
  refine al_y rfl rfl (y_loadN rfl rfl ty25 (by exact Nat.le_of_ble_eq_true rfl)) ?_
  refine al_y rfl rfl (y_callF (av := [_]) rfl ⟨rfl, trivial⟩ (f21v c (b := shortB c) rfl)) ?_
  refine al_y rfl rfl (y_not rfl rfl) ?_
  refine al_y rfl rfl (y_moveV rfl rfl) ?_
  refine al_maybe rfl rfl rfl (fun hg => y_moveP rfl rfl) ?_
  refine al_maybe rfl rfl rfl (fun hg => y_len rfl rfl (if_pos hg) Tryz.underlying23) ?_
  refine al_maybe rfl rfl rfl (fun hg => y_gtr rfl (if_pos hg) rfl) ?_
  refine al_y rfl rfl (y_or rfl rfl rfl rfl) ?_
  refine al_y rfl rfl (y_moveV rfl rfl) ?_
  refine al_maybe rfl rfl rfl (fun hg => y_loadN rfl rfl ty25 (by exact Nat.le_of_ble_eq_true rfl)) ?_
  refine al_maybe rfl rfl rfl (fun hg => y_callF (av := [_]) rfl ⟨((if_pos hg)), trivial⟩ (f31 c z1)) ?_
  refine al_maybe rfl rfl rfl (fun hg => y_not rfl (if_pos hg)) ?_
  refine al_y rfl rfl (y_or rfl rfl rfl rfl) ?_
  refine al_y rfl rfl (y_moveV rfl rfl) ?_
  refine al_maybe rfl rfl rfl (fun hg => y_loadN rfl rfl ty25 (by exact Nat.le_of_ble_eq_true rfl)) ?_
  refine al_maybe rfl rfl rfl (fun hg => y_moveP rfl rfl) ?_
  refine al_maybe rfl rfl rfl (fun hg => y_callF (av := [_, _]) rfl ⟨((if_pos hg)), ((if_pos hg)), trivial⟩ (f32 c m (by omega))) ?_
  refine al_maybe rfl rfl rfl (fun hg => y_not rfl (if_pos hg)) ?_
  refine al_y rfl rfl (y_or rfl rfl rfl rfl) ?_
  refine al_y rfl rfl (y_moveV rfl rfl) ?_
  refine al_maybe rfl rfl rfl (fun hg => y_moveV rfl rfl) ?_
  refine al_maybe rfl rfl rfl (fun hg => y_lss rfl (if_pos hg) rfl) ?_
  refine al_y rfl rfl (y_or rfl rfl rfl rfl) ?_
  refine al_y rfl rfl (y_moveV rfl rfl) ?_
  refine al_maybe rfl rfl rfl (fun hg => y_moveV rfl rfl) ?_
  refine al_maybe rfl rfl rfl (fun hg => y_moveP rfl rfl) ?_
  refine al_maybe rfl rfl rfl (fun hg => y_len rfl rfl (if_pos hg) Tryz.underlying23) ?_
  refine al_maybe rfl rfl rfl (fun hg => y_gtr rfl (if_pos hg) (if_pos hg)) ?_
  refine al_y rfl rfl (y_or rfl rfl rfl rfl) ?_
  refine al_y rfl rfl (y_moveV rfl rfl) ?_
  refine al_maybe rfl rfl rfl (fun hg => y_moveV rfl rfl) ?_
  refine al_maybe rfl rfl rfl (fun hg => y_lss rfl (if_pos hg) rfl) ?_
  refine al_y rfl rfl (y_or rfl rfl rfl rfl) ?_
  refine al_y rfl rfl (y_moveV rfl rfl) ?_
  refine al_maybe rfl rfl rfl (fun hg => y_moveV rfl rfl) ?_
  refine al_maybe rfl rfl rfl (fun hg => y_moveP rfl rfl) ?_
  refine al_maybe rfl rfl rfl (fun hg => y_len rfl rfl (if_pos hg) Tryz.underlying23) ?_
  refine al_maybe rfl rfl rfl (fun hg => y_gtr rfl (if_pos hg) (if_pos hg)) ?_
  refine al_y rfl rfl (y_or rfl rfl rfl rfl) ?_
  refine al_y rfl rfl (y_moveV rfl rfl) ?_
  refine al_maybe rfl rfl rfl (fun hg => y_moveV rfl rfl) ?_
  refine al_maybe rfl rfl rfl (fun hg => y_lss rfl (if_pos hg) rfl) ?_
  refine al_y rfl rfl (y_or rfl rfl rfl rfl) ?_
  refine al_y rfl rfl (y_moveV rfl rfl) ?_
  refine al_maybe rfl rfl rfl (fun hg => y_moveV rfl rfl) ?_
  refine al_maybe rfl rfl rfl (fun hg => y_geq rfl (if_pos hg) rfl) ?_
  refine al_y rfl rfl (y_or rfl rfl rfl rfl) ?_
  refine al_y rfl rfl (y_moveV rfl rfl) ?_
  refine al_maybe rfl rfl rfl (fun hg => y_moveV rfl rfl) ?_
  refine al_maybe rfl rfl rfl (fun hg => y_lss rfl (if_pos hg) rfl) ?_
  refine al_y rfl rfl (y_or rfl rfl rfl rfl) ?_
  refine al_y rfl rfl (y_moveV rfl rfl) ?_
  refine al_maybe rfl rfl rfl (fun hg => y_moveV rfl rfl) ?_
  refine al_maybe rfl rfl rfl (fun hg => y_geq rfl (if_pos hg) rfl) ?_
  refine al_y rfl rfl (y_or rfl rfl rfl rfl) ?_
  refine al_y rfl rfl (y_moveV rfl rfl) ?_
  refine al_maybe rfl rfl rfl (fun hg => y_moveV rfl rfl) ?_
  refine al_maybe rfl rfl rfl (fun hg => y_lss rfl (if_pos hg) rfl) ?_
  refine al_y rfl rfl (y_or rfl rfl rfl rfl) ?_
  refine al_y rfl rfl (y_moveV rfl rfl) ?_
  refine al_maybe rfl rfl rfl (fun hg => y_moveV rfl rfl) ?_
  refine al_maybe rfl rfl rfl (fun hg => y_gtr rfl (if_pos hg) rfl) ?_
  refine al_y rfl rfl (y_or rfl rfl rfl rfl) ?_
  refine al_nil ?_
  refine qt_normal ?_
  refine ac_cond rfl (fun h0 => ?_) (fun h0 => ?_)
  · skip
    exfalso
    unfold shortB at hs
    simp only [Bool.and_eq_true, decide_eq_true_eq] at hs
    simp [shortB, hs.1, hs.2, hc, hm] at h0
    omega
  · skip
    refine ac_skip ?_
    refine qt_normal ?_
    refine ac_seq ?_
    refine ac_region ?_
    refine al_y rfl rfl (y_loadN rfl rfl ty25 (by exact Nat.le_of_ble_eq_true rfl)) ?_
    refine al_m rfl (m_alloc rfl rfl zv25 rfl rfl) ?_
    refine al_m rfl (m_store rfl rfl rfl rfl rfl rfl (cE_agg rfl) ty25 (by rfl) (by exact Nat.le_of_ble_eq_true rfl)) ?_
    refine al_nil ?_
    refine qt_normal ?_
    refine ac_seq ?_
    refine ac_region ?_
    refine al_y rfl rfl (y_fieldAddr_pp rfl rfl rfl rfl fld25_2) ?_
    refine al_m rfl (m_store rfl rfl rfl rfl rfl rfl (cE_v rfl) ty3 (by rfl) (by exact Nat.le_of_ble_eq_true rfl)) ?_
    refine al_nil ?_
    refine qt_normal ?_
    refine ac_seq ?_
    refine ac_draw mixed (by kernel_rfl) rfl ?_
    refine aq_y rfl (y_load_ppA (cs := [_, _, _]) rfl rfl rfl rfl rfl (by exact Nat.le_of_ble_eq_true rfl) rfl ty25) ?_
    refine aq_y rfl (y_moveP rfl rfl) ?_
    refine aq_y rfl (y_moveV rfl rfl) ?_
    refine aq_y rfl (y_moveV rfl rfl) ?_
    refine aq_y rfl (y_moveV rfl rfl) ?_
    refine aq_y rfl (y_moveV rfl rfl) ?_
    refine aq_y rfl (y_callF (av := [_, _, _, _, _]) rfl ⟨rfl, rfl, rfl, rfl, rfl, trivial⟩ (f33 m o a o2 t (by omega) hb ho ha ho2 ht)) ?_
    refine aq_y rfl (y_buildSlice (size := 1) (rows := [[_]]) rfl Tryz.underlying26 ti34 rfl (by decide) rfl (by decide) ⟨_, _, rfl, (cE_sl rfl), rfl⟩ (by rfl) (by simp [ofV]) rfl (by simp)) ?_
    refine aq_y rfl (y_callF (av := [_, _]) rfl ⟨rfl, rfl, trivial⟩ (f24 (mst c 0) [(holL m o a o2 t)] z1 (by simp) (by intro g hg2; rw [List.mem_singleton] at hg2; subst hg2; have := (cop_at hcp).1; omega))) ?_
    refine aq_y rfl (y_moveP rfl rfl) ?_
    refine aq_y rfl (y_extract rfl rfl rfl) ?_
    refine aq_y rfl (y_extract rfl rfl rfl) ?_
    refine aq_y rfl (y_assignP rfl rfl) ?_
    refine aq_y rfl (y_assignV rfl rfl) ?_
    refine aq_nil ?_
    refine qt_normal ?_
    refine ac_seq ?_
    refine ac_seq ?_
    refine ac_region ?_
    refine al_y rfl rfl (y_moveV rfl rfl) ?_
    refine al_y rfl rfl (y_neq rfl rfl rfl) ?_
    refine al_y rfl rfl (y_moveV rfl rfl) ?_
    refine al_maybe rfl rfl rfl (fun hg => y_moveP rfl rfl) ?_
    refine al_maybe rfl rfl rfl (fun hg => y_moveP rfl rfl) ?_
    refine al_maybe rfl rfl rfl (fun hg => y_callF (av := [_, _]) rfl ⟨((if_pos hg)), ((if_pos hg)), trivial⟩ (f34 (fndL (mst c 0) [(holL m o a o2 t)]) m (Nat.le_trans (fndL_sz _ _).1 (by omega)) (fndL_sz _ _).2)) ?_
    refine al_maybe rfl rfl rfl (fun hg => y_not rfl (if_pos hg)) ?_
    refine al_y rfl rfl (y_or rfl rfl rfl rfl) ?_
    refine al_y rfl rfl (y_moveV rfl rfl) ?_
    refine al_maybe rfl rfl rfl (fun hg => y_moveP rfl rfl) ?_
    refine al_maybe rfl rfl rfl (fun hg => y_len rfl rfl (if_pos hg) Tryz.underlying30) ?_
    refine al_maybe rfl rfl rfl (fun hg => y_gtr rfl (if_pos hg) rfl) ?_
    refine al_y rfl rfl (y_or rfl rfl rfl rfl) ?_
    refine al_y rfl rfl (y_moveV rfl rfl) ?_
    refine al_maybe rfl rfl rfl (fun hg => y_moveV rfl rfl) ?_
    refine al_maybe rfl rfl rfl (fun hg => y_moveV rfl rfl) ?_
    refine al_maybe rfl rfl rfl (fun hg => y_neq rfl (if_pos hg) (if_pos hg)) ?_
    refine al_maybe rfl rfl rfl (fun hg => y_moveV rfl (if_pos hg)) ?_
    refine al_maybe rfl (wanted_ite rfl rfl rfl) rfl (fun hg => y_moveV rfl rfl) ?_
    refine al_maybe rfl (wanted_ite rfl rfl rfl) rfl (fun hg => y_moveV rfl rfl) ?_
    refine al_maybe rfl (wanted_ite rfl rfl rfl) rfl (fun hg => y_eql rfl (if_pos hg) (if_pos hg)) ?_
    refine al_maybe rfl rfl rfl (fun hg => y_or rfl (if_pos hg) rfl (ite_and hg)) ?_
    refine al_maybe rfl rfl rfl (fun hg => y_moveV rfl (if_pos hg)) ?_
    refine al_maybe rfl (wanted_ite rfl rfl rfl) rfl (fun hg => y_moveP rfl rfl) ?_
    refine al_maybe rfl (wanted_ite rfl rfl rfl) rfl (fun hg => y_len rfl rfl (if_pos hg) Tryz.underlying30) ?_
    refine al_maybe rfl (wanted_ite rfl rfl rfl) rfl (fun hg => y_neq rfl (if_pos hg) rfl) ?_
    refine al_maybe rfl rfl rfl (fun hg => y_and rfl (if_pos hg) (ite_and hg) rfl) ?_
    refine al_y rfl rfl (y_or rfl rfl rfl rfl) ?_
    refine al_nil ?_
    refine qt_normal ?_
    refine ac_cond rfl (fun h1 => ?_) (fun h1 => ?_)
    · skip
      exact absurd (h1.symm.trans (res_chk (by rw [hE0]; rfl) (hasL_iff.2 hin) (decide_eq_false (by rw [eIntss_lenI]; omega)) (by
        by_cases hcase : a ≠ t ∨ o = o2
        · have := h1L hcase
          rw [eIntss_lenI, this]; simp
        · have e1 : a = t := by omega
          have e2 : o ≠ o2 := by omega
          simp only [e1, bne_self_eq_false, Bool.false_or]
          rw [show (((o : Int) == (o2 : Int)) = false) from by simp; omega]; rfl))) (by decide)
    · skip
      refine ac_skip ?_
      refine qt_normal ?_
      refine ac_seq ?_
      refine ac_weak (weak_frM (mem' := [.row [[.pub (.sl (c.fields.map eSpn)), .pub (eInts c.turns), I 0]]]) [(1, .pub (eInts m)), (2, I (o : Int)), (3, I (a : Int)), (6, I (s : Int)), (7, .pub (.ptr (eCod c)))] ?_ ?_) ?_
      · exact ⟨rfl, rfl, rfl, rfl, rfl, trivial⟩
      · exact (rfl)
      refine ac_weak (weak_cut 0 ?_ ?_) ?_
      · exact ⟨trivial, trivial, trivial, trivial, trivial, trivial⟩
      · trivial
      refine ac_region ?_
      refine al_y rfl rfl (y_moveP rfl rfl) ?_
      refine al_m rfl (m_call (f := 35) (fs := []) (cs := []) (av := [.pub (eInts m)]) rfl rfl ⟨rfl, rfl, rfl⟩ ⟨rfl, trivial⟩ (m35 m (by omega) hb)) ?_
      refine al_y rfl rfl (y_assignS rfl rfl) ?_
      refine al_nil ?_
      refine qt_normal ?_
      refine ac_seq ?_
      refine ac_region ?_
      refine al_y rfl rfl (y_moveS rfl rfl) ?_
      refine al_y rfl rfl (y_moveV rfl rfl) ?_
      refine al_y rfl rfl (y_indexAddr_psl rfl rfl rfl rfl (by rw [sRows_len, grpsS_n]) slc34 (by omega) (by omega) (sRows_one _)) ?_
      refine al_y rfl rfl (y_load_pp1 (c := SL ((grpsS m).getD o [])) rfl rfl rfl (by rw [sRows_len, grpsS_n]) (sRows_get (by rw [grpsS_n]; omega)) rfl ty9) ?_
      refine al_y rfl rfl (y_moveV rfl rfl) ?_
      refine al_y rfl rfl (y_index_SL (c := chD (dg m a o)) rfl rfl rfl Tryz.underlying9 (by omega) (grp_ch ho ha)) ?_
      refine al_y rfl rfl (y_subK rfl rfl rfl (wrap_u8 (by omega))) ?_
      refine al_y rfl rfl (y_convI rfl rfl Tryz.underlying5 Tryz.underlying3 (wrap_64 (by omega))) ?_
      refine al_y rfl rfl (y_assignV rfl rfl) ?_
      refine al_nil ?_
      refine qt_normal ?_
      refine ac_seq ?_
      refine ac_seq ?_
      refine ac_weak (weak_frM (mem' := [.row (sRows (grpsS m))]) [(1, .pub (eInts m)), (2, I (o : Int)), (3, I (a : Int)), (6, I (s : Int)), (7, .pub (.ptr (eCod c))), (18, .psl 0 (m.length + 1)), (19, I (dg m a o))] ?_ ?_) ?_
      · exact ⟨rfl, rfl, rfl, rfl, rfl, rfl, (congrArg I (by rw [hch]; omega)), trivial⟩
      · exact (rfl)
      refine ac_region ?_
      refine al_y rfl rfl (y_fieldAddr rfl rfl fld25_2) ?_
      refine al_y rfl rfl (y_load1 rfl rfl rfl ty3) ?_
      refine al_y rfl rfl (y_eql rfl rfl rfl) ?_
      refine al_y rfl rfl (y_moveV rfl rfl) ?_
      refine al_maybe rfl rfl rfl (fun hg => y_fieldAddr rfl rfl fld25_1) ?_
      refine al_maybe rfl rfl rfl (fun hg => y_load1 rfl (if_pos hg) rfl ty23) ?_
      refine al_maybe rfl rfl rfl (fun hg => y_moveV rfl rfl) ?_
      refine al_maybe rfl rfl rfl (fun hg => y_indexAddr rfl (if_pos hg) (if_pos hg) slc23 (by omega) (int_at hw) int_len) ?_
      refine al_maybe rfl rfl rfl (fun hg => y_load1 rfl (if_pos hg) rfl ty3) ?_
      refine al_maybe rfl rfl rfl (fun hg => y_moveV rfl rfl) ?_
      refine al_maybe rfl rfl rfl (fun hg => y_callF (av := [_, _]) rfl ⟨((if_pos hg)), ((if_pos hg)), trivial⟩ (f36 c.turns[(dg m a o).toNat] s (by rw [hw1]; omega) (by omega))) ?_
      refine al_maybe rfl rfl rfl (fun hg => y_not rfl (if_pos hg)) ?_
      refine al_y rfl rfl (y_or rfl rfl rfl rfl) ?_
      refine al_nil ?_
      refine qt_normal ?_
      refine ac_cond rfl (fun h2 => ?_) (fun h2 => ?_)
      · skip
        refine ac_seq ?_
        refine ac_region ?_
        refine al_y rfl rfl (y_callF (av := []) rfl trivial hk) ?_
        refine al_y rfl rfl (y_assignV rfl rfl) ?_
        refine al_nil ?_
        refine qt_normal ?_
        refine ac_ret ?_
        refine qt_ret ?_
        exact ⟨.inr rfl, AVle.refl _⟩
      · skip
        have hmo : c.most ≠ 0 ∧ bitT c.turns[(dg m a o).toNat] s = true := by simpa using h2
        have hcan := put_can hc hm ho ha hs9 (by omega) (by rw [← hw1]; exact hmo.2)
        have hmS : m ∈ msgs c [(putL (grpsS m) o a (UInt8.ofNat (48 + s)))] := (mem_msgs hc (by simp) (by intro g hg2; rw [List.mem_singleton] at hg2; subst hg2; exact pcp.1)).2 ⟨hm, by intro g hg2; rw [List.mem_singleton] at hg2; subst hg2; exact hcan⟩
        have hES : fndE c [(putL (grpsS m) o a (UInt8.ofNat (48 + s)))] = 0 := by
          unfold fndE
          rw [if_pos askS, if_neg (fun e => by rw [e] at hmS; cases hmS)]
        rw [← hLS] at hmS
        refine ac_skip ?_
        refine qt_normal ?_
        refine ac_seq ?_
        refine ac_mix (fun _ => True) (fun k => match k with | 23 => .writes | _ => .here) mixed (by kernel_rfl) rfl (by kernel_rfl) trivial ?_
        refine am_h rfl rfl (y_moveS rfl rfl) ?_
        refine am_h rfl rfl (y_moveV rfl rfl) ?_
        refine am_h rfl rfl (y_moveS rfl rfl) ?_
        refine am_h rfl rfl (y_moveV rfl rfl) ?_
        refine am_h rfl rfl (y_indexAddr_psl rfl rfl rfl rfl (by rw [sRows_len, grpsS_n]) slc34 (by omega) (by omega) (sRows_one _)) ?_
        refine am_h rfl rfl (y_load_pp1 (c := SL ((grpsS m).getD o [])) rfl rfl rfl (by rw [sRows_len, grpsS_n]) (sRows_get (by rw [grpsS_n]; omega)) rfl ty9) ?_
        refine am_h rfl rfl (y_moveV rfl rfl) ?_
        refine am_h rfl rfl (y_slice_SL rfl rfl rfl rfl Tryz.underlying9 (by omega) (by omega) (by omega)) ?_
        refine am_h rfl rfl (y_moveV rfl rfl) ?_
        refine am_h rfl rfl (y_add rfl rfl rfl ⟨(by omega), (by omega)⟩) ?_
        refine am_h rfl rfl (y_convI rfl rfl Tryz.underlying3 Tryz.underlying5 (wrap_u8 (by omega))) ?_
        refine am_h rfl rfl (y_buildSlice (size := 1) (rows := [[_]]) rfl Tryz.underlying48 ti5 rfl (by decide) rfl (by decide) ⟨_, _, rfl, (cE_v rfl), rfl⟩ (by rfl) (by simp [ofV]) rfl (by simp)) ?_
        refine am_h rfl rfl (y_convBS (ns := [48 + (s : Int)]) rfl rfl Tryz.underlying48 Tryz.underlying5 Tryz.underlying9) ?_
        refine am_h rfl rfl (y_addS rfl rfl rfl (by simp only [List.length_append, List.length_map, List.length_drop, List.length_take, List.length_cons, List.length_nil]; omega)) ?_
        refine am_h rfl rfl (y_moveS rfl rfl) ?_
        refine am_h rfl rfl (y_moveV rfl rfl) ?_
        refine am_h rfl rfl (y_indexAddr_psl rfl rfl rfl rfl (by rw [sRows_len, grpsS_n]) slc34 (by omega) (by omega) (sRows_one _)) ?_
        refine am_h rfl rfl (y_load_pp1 (c := SL ((grpsS m).getD o [])) rfl rfl rfl (by rw [sRows_len, grpsS_n]) (sRows_get (by rw [grpsS_n]; omega)) rfl ty9) ?_
        refine am_h rfl rfl (y_moveV rfl rfl) ?_
        refine am_h rfl rfl (y_add rfl rfl rfl ⟨(by omega), (by omega)⟩) ?_
        refine am_h rfl rfl (y_slice_SL rfl rfl rfl rfl Tryz.underlying9 (by omega) (by omega) (by omega)) ?_
        refine am_h rfl rfl (y_addS rfl rfl rfl (by simp only [List.length_append, List.length_map, List.length_drop, List.length_take, List.length_cons, List.length_nil]; omega)) ?_
        refine am_h rfl rfl (y_indexAddr_psl rfl rfl rfl rfl (by rw [sRows_len, grpsS_n]) slc34 (by omega) (by omega) (sRows_one _)) ?_
        refine am_w rfl rfl (opB_store (r := [SL ((grpsS m).getD o [])]) rfl rfl rfl rfl (by rw [sRows_len, grpsS_n]) (sRows_get (by rw [grpsS_n]; omega)) (cE_v rfl) ty9 (by rfl) (by rfl)) trivial ?_
        refine am_nil ?_
        refine qt_normal ?_
        refine ac_seq ?_
        refine ac_weak (weak_frM (mem' := [.row (sRows (putL (grpsS m) o a (UInt8.ofNat (48 + s))))]) [(1, .pub (eInts m)), (7, .pub (.ptr (eCod c))), (18, .psl 0 (m.length + 1))] ?_ ?_) ?_
        · exact ⟨rfl, rfl, rfl, trivial⟩
        · exact (congrArg (fun z => [PO.row z]) (sRows_set (putW_eq2 _ _ _)))
        refine ac_weak (weak_pub (k := 0) (rows := (putL (grpsS m) o a (UInt8.ofNat (48 + s))).map fun s => [eS s]) [18] (congrArg (fun z => some (PO.row z)) (sRows_pub _)) (by simp [putL_len, grpsS_n]; rfl) (by intro d hd; rw [List.mem_singleton] at hd; subst hd; rfl)) ?_
        refine ac_weak (weak_frM (mem' := [.dead]) [(1, .pub (eInts m)), (7, .pub (.ptr (eCod c))), (18, .pub (eStrs (putL (grpsS m) o a (UInt8.ofNat (48 + s)))))] ?_ ?_) ?_
        · exact ⟨rfl, rfl, rfl, trivial⟩
        · exact (rfl)
        refine ac_region ?_
        refine al_y rfl rfl (y_loadN rfl rfl ty25 (by exact Nat.le_of_ble_eq_true rfl)) ?_
        refine al_y rfl rfl (y_moveP rfl rfl) ?_
        refine al_y rfl rfl (y_buildSlice (size := 1) (rows := [[_]]) rfl Tryz.underlying26 ti34 rfl (by decide) rfl (by decide) ⟨_, _, rfl, (cE_sl rfl), rfl⟩ (by rfl) (by simp [ofV]) rfl (by simp)) ?_
        refine al_y rfl rfl (y_callF (av := [_, _]) rfl ⟨rfl, rfl, trivial⟩ (f24 c [(putL (grpsS m) o a (UInt8.ofNat (48 + s)))] z1 (by simp) (by intro g hg2; rw [List.mem_singleton] at hg2; subst hg2; have := (cop_at pcp.1).1; omega))) ?_
        refine al_y rfl rfl (y_moveP rfl rfl) ?_
        refine al_y rfl rfl (y_extract rfl rfl rfl) ?_
        refine al_y rfl rfl (y_extract rfl rfl rfl) ?_
        refine al_y rfl rfl (y_assignP rfl rfl) ?_
        refine al_y rfl rfl (y_assignV rfl rfl) ?_
        refine al_nil ?_
        refine qt_normal ?_
        refine ac_seq ?_
        refine ac_region ?_
        refine al_y rfl rfl (y_moveV rfl rfl) ?_
        refine al_y rfl rfl (y_eql rfl rfl rfl) ?_
        refine al_y rfl rfl (y_moveV rfl rfl) ?_
        refine al_maybe rfl rfl rfl (fun hg => y_moveP rfl rfl) ?_
        refine al_maybe rfl rfl rfl (fun hg => y_moveP rfl rfl) ?_
        refine al_maybe rfl rfl rfl (fun hg => y_callF (av := [_, _]) rfl ⟨((if_pos hg)), ((if_pos hg)), trivial⟩ (f34 (fndL c [(putL (grpsS m) o a (UInt8.ofNat (48 + s)))]) m (Nat.le_trans (fndL_sz _ _).1 (by omega)) (fndL_sz _ _).2)) ?_
        refine al_y rfl rfl (y_and rfl rfl rfl rfl) ?_
        refine al_y rfl rfl (y_moveV rfl rfl) ?_
        refine al_maybe rfl rfl rfl (fun hg => y_callF (av := []) rfl trivial hk) ?_
        refine al_y rfl rfl (y_and rfl rfl rfl rfl) ?_
        refine al_y rfl rfl (y_assignV rfl rfl) ?_
        refine al_nil ?_
        refine qt_normal ?_
        refine ac_ret ?_
        exact ⟨.inr rfl, AVle.of (by rw [hES, show hasL (fndL c [(putL (grpsS m) o a (UInt8.ofNat (48 + s)))]) m = true from hasL_iff.2 hmS]; rfl)⟩

/-- isobarlaw02.WireRestores -/
theorem f4_far (hk : KN G) (c : Cod) (m : List Int) (o a o2 t s : Int) (hf : ¬ (shortB c = true ∧ m.length ≤ 6 ∧ codB c = true ∧ msgB c m = true ∧ 0 ≤ o ∧ o ≤ m.length ∧ 0 ≤ a ∧ a < 5 ∧ 0 ≤ o2 ∧ o2 ≤ m.length ∧ 0 ≤ t ∧ t < 5 ∧ 0 ≤ s ∧ s ≤ 9)) : ACall Tryz.prog G 4 [.agg (eCod c), eInts m, ei o, ei a, ei o2, ei t, ei s] (.v (.bool true)) := by
  refine acall_of Tryz.func4 rfl (by kernel_rfl) rfl ?_
  refine ac_seq ?_
  refine ac_region ?_
  refine al_y rfl rfl (y_box rfl (cE_agg rfl)) ?_
  refine al_y rfl rfl (y_assignV rfl rfl) ?_
  refine al_nil ?_
  refine qt_normal ?_
  refine ac_seq ?_
  refine ac_seq ?_
  refine ac_region ?_
  refine al_y rfl rfl (y_loadN rfl rfl ty25 (by exact Nat.le_of_ble_eq_true rfl)) ?_
  refine al_y rfl rfl (y_callF (av := [_]) rfl ⟨rfl, trivial⟩ (f21v c (b := shortB c) rfl)) ?_
  refine al_y rfl rfl (y_not rfl rfl) ?_
  refine al_y rfl rfl (y_moveV rfl rfl) ?_
  refine al_maybe rfl rfl rfl (fun hg => y_moveP rfl rfl) ?_
  refine al_maybe rfl rfl rfl (fun hg => y_len rfl rfl (if_pos hg) Tryz.underlying23) ?_
  refine al_maybe rfl rfl rfl (fun hg => y_gtr rfl (if_pos hg) rfl) ?_
  refine al_y rfl rfl (y_or rfl rfl rfl rfl) ?_
  refine al_y rfl rfl (y_moveV rfl rfl) ?_
  refine al_maybe rfl rfl rfl (fun hg => y_loadN rfl rfl ty25 (by exact Nat.le_of_ble_eq_true rfl)) ?_
  refine al_maybe rfl rfl rfl (fun hg => y_callF (av := [_]) rfl ⟨((if_pos hg)), trivial⟩ (f31 c (shortB_sz (gS2 hg)))) ?_
  refine al_maybe rfl rfl rfl (fun hg => y_not rfl (if_pos hg)) ?_
  refine al_y rfl rfl (y_or rfl rfl rfl rfl) ?_
  refine al_y rfl rfl (y_moveV rfl rfl) ?_
  refine al_maybe rfl rfl rfl (fun hg => y_loadN rfl rfl ty25 (by exact Nat.le_of_ble_eq_true rfl)) ?_
  refine al_maybe rfl rfl rfl (fun hg => y_moveP rfl rfl) ?_
  refine al_maybe rfl rfl rfl (fun hg => y_callF (av := [_, _]) rfl ⟨((if_pos hg)), ((if_pos hg)), trivial⟩ (f32 c m (res_len (gL hg)))) ?_
  refine al_maybe rfl rfl rfl (fun hg => y_not rfl (if_pos hg)) ?_
  refine al_y rfl rfl (y_or rfl rfl rfl rfl) ?_
  refine al_y rfl rfl (y_moveV rfl rfl) ?_
  refine al_maybe rfl rfl rfl (fun hg => y_moveV rfl rfl) ?_
  refine al_maybe rfl rfl rfl (fun hg => y_lss rfl (if_pos hg) rfl) ?_
  refine al_y rfl rfl (y_or rfl rfl rfl rfl) ?_
  refine al_y rfl rfl (y_moveV rfl rfl) ?_
  refine al_maybe rfl rfl rfl (fun hg => y_moveV rfl rfl) ?_
  refine al_maybe rfl rfl rfl (fun hg => y_moveP rfl rfl) ?_
  refine al_maybe rfl rfl rfl (fun hg => y_len rfl rfl (if_pos hg) Tryz.underlying23) ?_
  refine al_maybe rfl rfl rfl (fun hg => y_gtr rfl (if_pos hg) (if_pos hg)) ?_
  refine al_y rfl rfl (y_or rfl rfl rfl rfl) ?_
  refine al_y rfl rfl (y_moveV rfl rfl) ?_
  refine al_maybe rfl rfl rfl (fun hg => y_moveV rfl rfl) ?_
  refine al_maybe rfl rfl rfl (fun hg => y_lss rfl (if_pos hg) rfl) ?_
  refine al_y rfl rfl (y_or rfl rfl rfl rfl) ?_
  refine al_y rfl rfl (y_moveV rfl rfl) ?_
  refine al_maybe rfl rfl rfl (fun hg => y_moveV rfl rfl) ?_
  refine al_maybe rfl rfl rfl (fun hg => y_moveP rfl rfl) ?_
  refine al_maybe rfl rfl rfl (fun hg => y_len rfl rfl (if_pos hg) Tryz.underlying23) ?_
  refine al_maybe rfl rfl rfl (fun hg => y_gtr rfl (if_pos hg) (if_pos hg)) ?_
  refine al_y rfl rfl (y_or rfl rfl rfl rfl) ?_
  refine al_y rfl rfl (y_moveV rfl rfl) ?_
  refine al_maybe rfl rfl rfl (fun hg => y_moveV rfl rfl) ?_
  refine al_maybe rfl rfl rfl (fun hg => y_lss rfl (if_pos hg) rfl) ?_
  refine al_y rfl rfl (y_or rfl rfl rfl rfl) ?_
  refine al_y rfl rfl (y_moveV rfl rfl) ?_
  refine al_maybe rfl rfl rfl (fun hg => y_moveV rfl rfl) ?_
  refine al_maybe rfl rfl rfl (fun hg => y_geq rfl (if_pos hg) rfl) ?_
  refine al_y rfl rfl (y_or rfl rfl rfl rfl) ?_
  refine al_y rfl rfl (y_moveV rfl rfl) ?_
  refine al_maybe rfl rfl rfl (fun hg => y_moveV rfl rfl) ?_
  refine al_maybe rfl rfl rfl (fun hg => y_lss rfl (if_pos hg) rfl) ?_
  refine al_y rfl rfl (y_or rfl rfl rfl rfl) ?_
  refine al_y rfl rfl (y_moveV rfl rfl) ?_
  refine al_maybe rfl rfl rfl (fun hg => y_moveV rfl rfl) ?_
  refine al_maybe rfl rfl rfl (fun hg => y_geq rfl (if_pos hg) rfl) ?_
  refine al_y rfl rfl (y_or rfl rfl rfl rfl) ?_
  refine al_y rfl rfl (y_moveV rfl rfl) ?_
  refine al_maybe rfl rfl rfl (fun hg => y_moveV rfl rfl) ?_
  refine al_maybe rfl rfl rfl (fun hg => y_lss rfl (if_pos hg) rfl) ?_
  refine al_y rfl rfl (y_or rfl rfl rfl rfl) ?_
  refine al_y rfl rfl (y_moveV rfl rfl) ?_
  refine al_maybe rfl rfl rfl (fun hg => y_moveV rfl rfl) ?_
  refine al_maybe rfl rfl rfl (fun hg => y_gtr rfl (if_pos hg) rfl) ?_
  refine al_y rfl rfl (y_or rfl rfl rfl rfl) ?_
  refine al_nil ?_
  refine qt_normal ?_
  refine ac_cond rfl (fun h0 => ?_) (fun h0 => ?_)
  · skip
    refine ac_seq ?_
    refine ac_region ?_
    refine al_y rfl rfl (y_callF (av := []) rfl trivial hk) ?_
    refine al_y rfl rfl (y_assignV rfl rfl) ?_
    refine al_nil ?_
    refine qt_normal ?_
    refine ac_ret ?_
    refine qt_ret ?_
    exact ⟨.inr rfl, AVle.refl _⟩
  · skip
    exfalso
    apply hf
    obtain ⟨q1, q2, q3, q4, q5, q6, q7, q8, q9, q10, q11, q12, q13, q14⟩ := res_split h0
    simp [eInts] at q2 q5 q6 q7 q8 q9 q10 q11 q12 q13 q14
    refine ⟨q1, ?_, q3, q4, ?_, ?_, ?_, ?_, ?_, ?_, ?_, ?_, ?_, ?_⟩ <;> omega

theorem f4 (hk : KN G) (c : Cod) (m : List Int) (o a o2 t s : Int) : ACall Tryz.prog G 4 [.agg (eCod c), eInts m, ei o, ei a, ei o2, ei t, ei s] (.v (.bool true)) := by
  by_cases h : shortB c = true ∧ m.length ≤ 6 ∧ codB c = true ∧ msgB c m = true ∧ 0 ≤ o ∧ o ≤ m.length ∧ 0 ≤ a ∧ a < 5 ∧ 0 ≤ o2 ∧ o2 ≤ m.length ∧ 0 ≤ t ∧ t < 5 ∧ 0 ≤ s ∧ s ≤ 9
  · obtain ⟨h1, h2, h3, h4, h5, h6, h7, h8, h9, h10, h11, h12, h13, h14⟩ := h
    obtain ⟨o, rfl⟩ := Int.eq_ofNat_of_zero_le h5
    obtain ⟨a, rfl⟩ := Int.eq_ofNat_of_zero_le h7
    obtain ⟨o2, rfl⟩ := Int.eq_ofNat_of_zero_le h9
    obtain ⟨t, rfl⟩ := Int.eq_ofNat_of_zero_le h11
    obtain ⟨s, rfl⟩ := Int.eq_ofNat_of_zero_le h13
    exact f4_main hk c m o a o2 t s h1 h2 h3 h4 (by omega) (by omega) (by omega) (by omega) (by omega)
  · exact f4_far hk c m o a o2 t s h
end Go.Av
end
