/- Doubt. · How many messages have the same group. -/
import Derived.Test.YtaphehlgijlfeaaGreatDoorWiT
import Derived.Test.YtaphehlgijlfeaaGreatDoorWiQ
import Derived.Test.YtaphehlgijlfeaaGreatDoorWiR
set_option linter.unusedVariables false
set_option linter.unusedSimpArgs false
section
namespace Go.Av
open Go.Proofs
set_option maxRecDepth 100000
set_option maxHeartbeats 1000000
set_option linter.unusedSimpArgs false
variable {G : Glob}
theorem st143 : structIs Tryz.prog 143 [(0, 1), (1, 1)] [.int .i64 0, .int .i64 0] := ⟨_, Tryz.underlying143, by kernel_rfl, by kernel_rfl⟩
theorem ti143 : Tryz.prog.info? 143 = some Tryz.t143 := by kernel_rfl

theorem fndE_z {c : Cod} {l : List (List (List UInt8))} (h : fndE c l = 0) : askE c l = 0 ∧ fndL c l = msgs c l ∧ msgs c l ≠ [] := by
  unfold fndE at h
  by_cases h0 : askE c l = 0
  · rw [if_pos h0] at h
    refine ⟨h0, by unfold fndL; rw [if_pos h0], fun e => ?_⟩
    rw [if_pos e] at h; cases h
  · rw [if_neg h0] at h; exact absurd h h0
theorem fnd_mem {c : Cod} {l : List (List (List UInt8))} (h : fndE c l = 0) : codB c = true ∧ ∀ m ∈ fndL c l, msgB c m = true ∧ m.length = c.fields.length ∧ ∀ x ∈ m, 0 ≤ x ∧ x ≤ 1000000000000 := by
  obtain ⟨h0, h1, _⟩ := fndE_z h
  obtain ⟨q1, q2, q3, q4⟩ := askE_0 h0
  refine ⟨q1, fun m hm => ?_⟩
  rw [h1] at hm
  have := (mem_msgs q1 q2 q4).1 hm
  exact ⟨this.1, msg_len this.1, msg_bd' q1 this.1⟩
theorem mapV_ok {k : Nat} {es : List (G5 × Value)} : PO.okL k (mapV encG es) := fun p hp => by
  obtain ⟨q, hq, rfl⟩ := List.mem_map.1 hp
  obtain ⟨r, _, rfl⟩ := List.mem_map.1 hq
  trivial
theorem okPair {k : Nat} {D : List (Int × Int)} : PO.okL k (.row (D.map fun p => [I p.1, I p.2])) := fun r hr x hx => by
  obtain ⟨q, _, rfl⟩ := List.mem_map.1 hr
  simp at hx
  rcases hx with rfl | rfl <;> trivial
theorem okOne {k : Nat} {a b : Int} : PO.okL k (.row [[I a, I b]]) := fun r hr x hx => by
  simp at hr; subst hr; simp at hx
  rcases hx with rfl | rfl <;> trivial
theorem mx_step {ks : List G5} {q : Nat} (h : q < ks.length) : max (mxK ks q : Int) (((ks.take (q + 1)).count (ks.getD q ⟨0, 0, 0, 0, 0⟩) : Nat) : Int) = ((mxK ks (q + 1) : Nat) : Int) := by
  have hg : ks.getD q ⟨0, 0, 0, 0, 0⟩ = ks[q] := by simp [h]
  rw [mxK, hg, count_take h, if_pos rfl]; omega
theorem pair_pub (D : List (Int × Int)) : (D.map fun p => [I p.1, I p.2]) = (D.map eSpn).map (·.map .pub) := by simp [eSpn]

theorem f43_err (c : Cod) (l : List (List (List UInt8))) (hc : c.fields.length ≤ 1000 ∧ c.turns.length ≤ 1000) (hl : l.length ≤ 1000) (hgl : ∀ g ∈ l, g.length ≤ 1000) (hf : fndE c l ≠ 0) : ACall Tryz.prog G 43 [.agg (eCod c), eCps l] (.tup [ei 0, ei 0, ei (fndE c l)]) := by
 refine acall_of Tryz.func43 rfl (by kernel_rfl) rfl ?_
 refine ac_seq ?_
 refine ac_region ?_
 refine al_y rfl rfl (y_box rfl (cE_agg rfl)) ?_
 refine al_y rfl rfl (y_assignV rfl rfl) ?_
 refine al_y rfl rfl (y_assignV rfl rfl) ?_
 refine al_y rfl rfl (y_assignV rfl rfl) ?_
 refine al_nil ?_
 refine qt_normal ?_
 refine ac_seq ?_
 refine ac_region ?_
 refine al_y rfl rfl (y_loadN rfl rfl ty25 (by exact Nat.le_of_ble_eq_true rfl)) ?_
 refine al_y rfl rfl (y_moveP rfl rfl) ?_
 refine al_y rfl rfl (y_callF (av := [_, _]) rfl ⟨rfl, rfl, trivial⟩ (f85 c l hc hl hgl)) ?_
 refine al_y rfl rfl (y_moveP rfl rfl) ?_
 refine al_y rfl rfl (y_extract rfl rfl rfl) ?_
 refine al_y rfl rfl (y_extract rfl rfl rfl) ?_
 refine al_y rfl rfl (y_assignP rfl rfl) ?_
 refine al_y rfl rfl (y_assignV rfl rfl) ?_
 refine al_nil ?_
 refine qt_normal ?_
 refine ac_seq ?_
 refine ac_seq ?_
 refine ac_region ?_
 refine al_y rfl rfl (y_moveV rfl rfl) ?_
 refine al_y rfl rfl (y_neq rfl rfl rfl) ?_
 refine al_nil ?_
 refine qt_normal ?_
 refine ac_cond rfl (fun h_0 => ?_) (fun h_0 => ?_)
 ·
  refine ac_seq ?_
  refine ac_region ?_
  refine al_y rfl rfl (y_moveV rfl rfl) ?_
  refine al_y rfl rfl (y_assignV rfl rfl) ?_
  refine al_y rfl rfl (y_assignV rfl rfl) ?_
  refine al_y rfl rfl (y_assignV rfl rfl) ?_
  refine al_nil ?_
  refine qt_normal ?_
  refine ac_ret ?_
  refine qt_ret ?_
  exact ⟨.inr rfl, ⟨_, rfl, ⟨_, _, rfl, AVle.refl _, ⟨_, _, rfl, AVle.refl _, ⟨_, _, rfl, AVle.refl _, rfl⟩⟩⟩⟩⟩
 ·
  exfalso; simp at h_0; exact hf h_0

theorem f43_ok (c : Cod) (l : List (List (List UInt8))) (hc : c.fields.length ≤ 1000 ∧ c.turns.length ≤ 1000) (hl : l.length ≤ 1000) (hgl : ∀ g ∈ l, g.length ≤ 1000) (hf : fndE c l = 0) (L : List (List Int)) (hL : L = fndL c l) : ACall Tryz.prog G 43 [.agg (eCod c), eCps l] (.tup [ei (bestD (dbtL (c.fields.length + 1) L)).1, ei (bestD (dbtL (c.fields.length + 1) L)).2, ei 0]) := by
 have hfm := fnd_mem hf
 have hcb := cod_bd hfm.1
 have hLb := (fndL_sz c l).1
 rw [← hL] at hfm hLb
 refine acall_of Tryz.func43 rfl (by kernel_rfl) rfl ?_
 refine ac_seq ?_
 refine ac_region ?_
 refine al_y rfl rfl (y_box rfl (cE_agg rfl)) ?_
 refine al_y rfl rfl (y_assignV rfl rfl) ?_
 refine al_y rfl rfl (y_assignV rfl rfl) ?_
 refine al_y rfl rfl (y_assignV rfl rfl) ?_
 refine al_nil ?_
 refine qt_normal ?_
 refine ac_seq ?_
 refine ac_region ?_
 refine al_y rfl rfl (y_loadN rfl rfl ty25 (by exact Nat.le_of_ble_eq_true rfl)) ?_
 refine al_y rfl rfl (y_moveP rfl rfl) ?_
 refine al_y rfl rfl (y_callF (av := [_, _]) rfl ⟨rfl, rfl, trivial⟩ (by have := f85 (G := G) c l hc hl hgl; rw [← hL, hf] at this; exact this)) ?_
 refine al_y rfl rfl (y_moveP rfl rfl) ?_
 refine al_y rfl rfl (y_extract rfl rfl rfl) ?_
 refine al_y rfl rfl (y_extract rfl rfl rfl) ?_
 refine al_y rfl rfl (y_assignP rfl rfl) ?_
 refine al_y rfl rfl (y_assignV rfl rfl) ?_
 refine al_nil ?_
 refine qt_normal ?_
 refine ac_seq ?_
 refine ac_seq ?_
 refine ac_region ?_
 refine al_y rfl rfl (y_moveV rfl rfl) ?_
 refine al_y rfl rfl (y_neq rfl rfl rfl) ?_
 refine al_nil ?_
 refine qt_normal ?_
 refine ac_cond rfl (fun h_0 => ?_) (fun h_0 => ?_)
 ·
  exfalso; simp at h_0
 ·
  refine ac_skip ?_
  refine qt_normal ?_
  refine ac_seq ?_
  refine ac_region ?_
  refine al_y rfl rfl (y_assignV rfl rfl) ?_
  refine al_nil ?_
  refine qt_normal ?_
  refine ac_seq ?_
  refine ac_seq ?_
  refine ac_region ?_
  refine al_y rfl rfl (y_fieldAddr rfl rfl fld25_0) ?_
  refine al_y rfl rfl (y_load1 rfl rfl rfl ty22) ?_
  refine al_y rfl rfl (y_len rfl rfl rfl Tryz.underlying22) ?_
  refine al_y rfl rfl (y_add rfl rfl rfl ⟨by simp; omega, by simp; omega⟩) ?_
  refine al_y rfl rfl (y_moveV rfl rfl) ?_
  refine al_nil ?_
  refine qt_normal ?_
  refine ac_block ?_
  refine ac_weak (weak_nil 9 rfl) ?_
  refine ac_loop (ι := { k : Nat // k ≤ c.fields.length + 1 }) (fun k => ⟨Tryz.f43.ntmps, frL [(2, .pub (.ptr (eCod c))), (7, .pub (eIntss L)), (9, .psl 0 k.1), (29, I ((c.fields.length : Int) + 1)), (30, I (k.1 : Int))], [.row ((dbtL k.1 L).map fun p => [I p.1, I p.2])]⟩) (fun k => c.fields.length + 1 - k.1) (⟨0, by omega⟩) ?_ ?_
  ·
   exact weak_frM _ ⟨rfl, rfl, rfl, (congrArg (fun z : Nat => I ((z : Int) + 1)) (List.length_map ..)), rfl, trivial⟩ (rfl)
  ·
   rintro ⟨k, hk⟩
   dsimp only
   have hk9 := hk
   refine ac_seq ?_
   refine ac_region ?_
   refine al_y rfl rfl (y_lss rfl rfl rfl) ?_
   refine al_nil ?_
   refine qt_normal ?_
   refine ac_seq ?_
   refine ac_cond rfl (fun h_1 => ?_) (fun h_1 => ?_)
   ·
    have hkn : k < c.fields.length + 1 := by simp at h_1; omega
    refine ac_skip ?_
    refine qt_normal ?_
    refine ac_seq ?_
    refine ac_block ?_
    refine ac_seq ?_
    refine ac_region ?_
    refine al_y rfl rfl (y_moveV rfl rfl) ?_
    refine al_y rfl rfl (y_assignV rfl rfl) ?_
    refine al_nil ?_
    refine qt_normal ?_
    refine ac_seq ?_
    refine ac_region ?_
    refine al_y rfl rfl (y_moveV rfl rfl) ?_
    refine al_y rfl rfl (y_build (cs := [_, _]) rfl st143 rfl ⟨_, _, rfl, (cE_v rfl), rfl⟩ (by rfl) (by simp [ofV])) ?_
    refine al_m rfl (m_alloc rfl rfl zv143 rfl rfl) ?_
    refine al_m rfl (m_store rfl rfl rfl rfl rfl rfl (cE_agg rfl) ty143 (by rfl) (by exact Nat.le_of_ble_eq_true rfl)) ?_
    refine al_nil ?_
    refine qt_normal ?_
    refine ac_seq ?_
    refine ac_region ?_
    refine al_m rfl (m_makeMap rfl rfl) ?_
    refine al_y rfl rfl (y_assignG rfl rfl) ?_
    refine al_nil ?_
    refine qt_normal ?_
    refine ac_seq ?_
    refine ac_seq ?_
    refine ac_region ?_
    refine al_y rfl rfl (y_moveP rfl rfl) ?_
    refine al_y rfl rfl (y_len rfl rfl rfl Tryz.underlying30) ?_
    refine al_y rfl rfl (y_moveV rfl rfl) ?_
    refine al_nil ?_
    refine qt_normal ?_
    refine ac_block ?_
    refine ac_loop (ι := { q : Nat // q ≤ L.length }) (fun q => ⟨Tryz.f43.ntmps, frL [(2, .pub (.ptr (eCod c))), (7, .pub (eIntss L)), (9, .psl 0 k), (10, I (k : Int)), (11, .pp 1 1 0 0), (12, .mpv 2), (29, I ((c.fields.length : Int) + 1)), (30, I (k : Int)), (36, .pub (eIntss L)), (37, I (L.length : Int)), (38, I (q.1 : Int))], [.row ((dbtL k L).map fun p => [I p.1, I p.2]), .row [[I (k : Int), I ((mxK (keysAt L k) q.1 : Nat) : Int)]], mapV encG (esK (keysAt L k) q.1)]⟩) (fun q => L.length - q.1) (⟨0, by omega⟩) ?_ ?_
    ·
     exact weak_frM _ ⟨rfl, rfl, rfl, rfl, rfl, rfl, rfl, rfl, rfl, (congrArg (fun z : Nat => I (z : Int)) (List.length_map ..)), rfl, trivial⟩ (rfl)
    ·
     rintro ⟨q, hq⟩
     dsimp only
     refine ac_seq ?_
     refine ac_region ?_
     refine al_y rfl rfl (y_lss rfl rfl rfl) ?_
     refine al_nil ?_
     refine qt_normal ?_
     refine ac_seq ?_
     refine ac_cond rfl (fun h_2 => ?_) (fun h_2 => ?_)
     ·
      have hlt : q < L.length := by simpa [eIntss] using h_2
      have hgl2 := (hfm.2 _ (List.getElem_mem hlt)).2.1
      have hgat : ((grps L[q]).map eFg)[k]? = some (eFg ((keysAt L k).getD q ⟨0, 0, 0, 0, 0⟩)) := by
       rw [keys_at hlt]; exact g_atD (by simp [grps]; omega)
      have hmle := mxK_le (ks := (keysAt L k)) (k := q)
      have hcle : (((keysAt L k).take q).count ((keysAt L k).getD q ⟨0, 0, 0, 0, 0⟩)) ≤ q := Nat.le_trans (mxK_ge _ (by rw [keys_len]; omega)) hmle
      refine ac_skip ?_
      refine qt_normal ?_
      refine ac_seq ?_
      refine ac_block ?_
      refine ac_seq ?_
      refine ac_region ?_
      refine al_y rfl rfl (y_indexAddr rfl rfl rfl slc30 (by omega) (ints_at hlt) ints_len) ?_
      refine al_y rfl rfl (y_load1 rfl rfl rfl ty23) ?_
      refine al_y rfl rfl (y_assignP rfl rfl) ?_
      refine al_nil ?_
      refine qt_normal ?_
      refine ac_seq ?_
      refine ac_region ?_
      refine al_y rfl rfl (y_moveP rfl rfl) ?_
      refine al_y rfl rfl (y_callF (av := [_]) rfl ⟨rfl, trivial⟩ (f99 L[q] (by have := (hfm.2 _ (List.getElem_mem hlt)).2.1; omega) (hfm.2 _ (List.getElem_mem hlt)).2.2)) ?_
      refine al_y rfl rfl (y_moveV rfl rfl) ?_
      refine al_y rfl rfl (y_indexAddr rfl rfl rfl slc145 (by omega) (hgat) g_len) ?_
      refine al_y rfl rfl (y_loadN rfl rfl ty118 (by exact Nat.le_of_ble_eq_true rfl)) ?_
      refine al_pair  rfl rfl rfl rfl rfl rfl rfl zv118 ty118 rfl (by rfl) (cE_agg rfl) rfl ?_
      refine al_nil ?_
      refine qt_normal ?_
      refine ac_seq ?_
      refine ac_weak weak_hole ?_
      refine ac_mix (CEnt encG 2 3 ((keysAt L k).getD q ⟨0, 0, 0, 0, 0⟩) (.int .i64 0) (esK (keysAt L k) q)) (fun k => match k with | 0 => .stable | 1 => .stable | 2 => .rd [3] | 3 => .stable | 4 => .rw [] 2 | 5 => .stable | 6 => .writes | _ => .here) mixed (by kernel_rfl) rfl (by kernel_rfl) (fun _ => .inl rfl) ?_
      refine am_s rfl rfl (fun m hm => y_moveG rfl rfl) ?_
      refine am_s rfl rfl (fun m hm => y_loadN rfl rfl ty118 (by exact Nat.le_of_ble_eq_true rfl)) ?_
      refine am_r [3] rfl rfl (fun m hm hC => ce_lookupI (n := (((((keysAt L k).take q).count ((keysAt L k).getD q ⟨0, 0, 0, 0, 0⟩)) : Nat) : Int)) hm rfl hC rfl rfl rfl (esK_get (by rw [keys_len]; omega))) ?_
      refine am_s rfl rfl (fun m hm => y_add rfl rfl rfl ⟨(by omega), (by omega)⟩) ?_
      refine am_xc [] 2 rfl rfl (fun m hm hC => ce_entryI (g := ((keysAt L k).getD q ⟨0, 0, 0, 0, 0⟩)) (es := esK (keysAt L k) q) hm rfl (by decide) hC rfl rfl rfl esK_one) ?_
      refine am_s rfl rfl (fun m hm => y_extract rfl rfl rfl) ?_
      refine am_w rfl rfl (ce_store (l := 2) (d := 3) (a := ((keysAt L k).getD q ⟨0, 0, 0, 0, 0⟩)) (z := .int .i64 0) (es := esK (keysAt L k) q) (v := .int .i64 (((((keysAt L k).take q).count ((keysAt L k).getD q ⟨0, 0, 0, 0, 0⟩)) : Int) + 1)) rfl rfl rfl rfl (by decide) rfl rfl) (fun h => absurd (show some PO.dead = some (PO.row []) from h) (by simp)) ?_
      refine am_nil ?_
      refine qt_normal ?_
      refine ac_weak (weak_frM (mem' := [.row ((dbtL k L).map fun p => [I p.1, I p.2]), .row [[I (k : Int), I ((mxK (keysAt L k) q : Nat) : Int)]], mapV encG (esK (keysAt L k) (q + 1)), .dead]) [(2, .pub (.ptr (eCod c))), (7, .pub (eIntss L)), (9, .psl 0 k), (10, I (k : Int)), (11, .pp 1 1 0 0), (12, .mpv 2), (29, I ((c.fields.length : Int) + 1)), (30, I (k : Int)), (36, .pub (eIntss L)), (37, I (L.length : Int)), (15, .pub (.ptr (eFg ((keysAt L k).getD q ⟨0, 0, 0, 0, 0⟩)))), (38, I (q : Int))] ?_ ?_) ?_
      ·
       exact ⟨rfl, rfl, rfl, rfl, rfl, rfl, rfl, rfl, rfl, rfl, rfl, rfl, trivial⟩
      ·
       exact (congrArg (fun z => [PO.row ((dbtL k L).map fun p => [I p.1, I p.2]), .row [[I (k : Int), I ((mxK (keysAt L k) q : Nat) : Int)]], z, .dead]) (esK_setA (keysAt L k) q ((keysAt L k).getD q ⟨0, 0, 0, 0, 0⟩) (((keysAt L k).take q).count ((keysAt L k).getD q ⟨0, 0, 0, 0, 0⟩)) rfl rfl))
      refine ac_weak (weak_cut 3 ?_ ?_) ?_
      ·
       exact ⟨trivial, trivial, (show _ < _ by omega), trivial, (show _ < _ by omega), (show _ < _ by omega), trivial, trivial, trivial, trivial, trivial, trivial, trivial⟩
      ·
       exact ⟨okPair, okOne, mapV_ok, trivial⟩
      refine ac_mix (fun _ => True) (fun k => match k with | 7 => .writes | _ => .here) mixed (by kernel_rfl) rfl (by kernel_rfl) trivial ?_
      refine am_h rfl rfl (y_fieldAddr_pp rfl rfl rfl rfl fld143_1) ?_
      refine am_h rfl rfl (y_load_pp1 rfl rfl rfl rfl rfl rfl ty3) ?_
      refine am_h rfl rfl (y_moveG rfl rfl) ?_
      refine am_h rfl rfl (y_loadN rfl rfl ty118 (by exact Nat.le_of_ble_eq_true rfl)) ?_
      refine am_h rfl rfl (y_lookupI (n := (((keysAt L k).take (q + 1)).count ((keysAt L k).getD q ⟨0, 0, 0, 0, 0⟩) : Nat)) rfl rfl rfl rfl (esK_get (by rw [keys_len]; omega))) ?_
      refine am_h rfl rfl (y_max rfl rfl rfl) ?_
      refine am_h rfl rfl (y_fieldAddr_pp rfl rfl rfl rfl fld143_1) ?_
      refine am_w rfl rfl (opB_store rfl rfl rfl rfl rfl rfl (cE_v rfl) ty3 (by rfl) (by rfl)) trivial ?_
      refine am_nil ?_
      refine qb_normal ?_
      refine qt_normal ?_
      refine ac_region ?_
      refine al_y rfl rfl (y_add rfl rfl rfl ⟨(by omega), (by omega)⟩) ?_
      refine al_y rfl rfl (y_moveV rfl rfl) ?_
      refine al_nil ?_
      exact ⟨⟨q + 1, by omega⟩, by dsimp only; omega, weak_frM _ ⟨rfl, rfl, rfl, rfl, rfl, rfl, rfl, rfl, rfl, rfl, rfl, trivial⟩ (congrArg (fun z => [PO.row ((dbtL k L).map fun p => [I p.1, I p.2]), .row [[I (k : Int), I z]], mapV encG (esK (keysAt L k) (q + 1))]) (mx_step (by rw [keys_len]; omega)))⟩
     ·
      have hge : L.length ≤ q := by simpa [eIntss] using h_2
      have hq2 : q = L.length := by omega
      refine ac_exit ?_
      refine qt_exit ?_
      refine qt_exit ?_
      refine qb_exit ?_
      refine qt_normal ?_
      refine ac_region ?_
      refine al_y rfl rfl (y_moveS rfl rfl) ?_
      refine al_y rfl rfl (y_load_ppA (cs := [_, _]) rfl rfl rfl rfl rfl (by exact Nat.le_of_ble_eq_true rfl) rfl ty143) ?_
      refine al_y rfl rfl (y_buildSlice (size := 2) (rows := [[_, _]]) rfl Tryz.underlying141 ti143 rfl (by decide) rfl (by decide) ⟨_, _, rfl, (cE_agg rfl), rfl⟩ (by rfl) (by simp [ofV]) rfl (by simp)) ?_
      refine al_m rfl (m_append rfl rfl rfl rfl (by rw [List.length_map, dbtL_len]) rfl el141 (by intro r hr; obtain ⟨n, _, rfl⟩ := List.mem_map.1 hr; rfl) (by simp) (by simp; omega) (by unfold maxLen; simp; omega)) ?_
      refine al_y rfl rfl (y_assignS rfl rfl) ?_
      refine al_nil ?_
      refine qb_normal ?_
      refine qt_normal ?_
      refine ac_region ?_
      refine al_y rfl rfl (y_add rfl rfl rfl ⟨(by omega), (by omega)⟩) ?_
      refine al_y rfl rfl (y_moveV rfl rfl) ?_
      refine al_nil ?_
      exact ⟨⟨k + 1, by omega⟩, by dsimp only; omega, Weak.trans (weak_frM (mem' := [.row ((dbtL (k + 1) L).map fun p => [I p.1, I p.2]), .row [[I (k : Int), I ((mxK (keysAt L k) q : Nat) : Int)]], mapV encG (esK (keysAt L k) q)]) [(2, .pub (.ptr (eCod c))), (7, .pub (eIntss L)), (9, .psl 0 (k + 1)), (29, I ((c.fields.length : Int) + 1)), (30, I ((k + 1 : Nat) : Int))] ⟨rfl, rfl, rfl, rfl, rfl, trivial⟩ (congrArg (fun z => [PO.row z, .row [[I (k : Int), I ((mxK (keysAt L k) q : Nat) : Int)]], mapV encG (esK (keysAt L k) q)]) ((congrArg (fun n : Nat => ((dbtL k L).map fun p => [I p.1, I p.2]) ++ [[I (k : Int), I ((mxK (keysAt L k) n : Nat) : Int)]]) hq2).trans (dbt_step L k)))) (weak_cut 1 ⟨trivial, trivial, (show _ < _ by omega), trivial, trivial, trivial⟩ ⟨okPair, trivial⟩)⟩
   ·
    have hkn : k = c.fields.length + 1 := by simp at h_1; omega
    refine ac_exit ?_
    refine qt_exit ?_
    refine qt_exit ?_
    refine qb_exit ?_
    refine qt_normal ?_
    refine ac_seq ?_
    refine ac_weak (weak_pub (k := 0) (m := k) (rows := (dbtL (c.fields.length + 1) L).map eSpn) [9] ?_ ?_ ?_) ?_
    ·
     exact (congrArg (fun z => some (PO.row z)) (show ((dbtL k L).map fun p => [I p.1, I p.2]) = _ by rw [hkn]; exact pair_pub _))
    ·
     rw [List.length_map, dbtL_len, hkn]
    ·
     intro d hd; rw [List.mem_singleton] at hd; subst hd; rfl
    refine ac_region ?_
    refine al_y rfl rfl (y_moveP rfl rfl) ?_
    refine al_y rfl rfl (y_callF (av := [_, _]) rfl ⟨rfl, rfl, trivial⟩ (f100 (dbtL (c.fields.length + 1) L) (by rw [dbtL_len]; omega) (by rw [dbtL_len]; omega))) ?_
    refine al_pair  rfl rfl rfl rfl rfl rfl rfl zv143 ty143 rfl (by rfl) (cE_agg rfl) rfl ?_
    refine al_nil ?_
    refine qt_normal ?_
    refine ac_seq ?_
    refine ac_draw mixed (by kernel_rfl) rfl ?_
    refine aq_y rfl (y_fieldAddr rfl rfl fld143_0) ?_
    refine aq_y rfl (y_load1 rfl rfl rfl ty3) ?_
    refine aq_y rfl (y_fieldAddr rfl rfl fld143_1) ?_
    refine aq_y rfl (y_load1 rfl rfl rfl ty3) ?_
    refine aq_y rfl (y_assignV rfl rfl) ?_
    refine aq_y rfl (y_assignV rfl rfl) ?_
    refine aq_y rfl (y_assignV rfl rfl) ?_
    refine aq_nil ?_
    refine qt_normal ?_
    refine ac_ret ?_
    exact ⟨.inr rfl, ⟨_, rfl, ⟨_, _, rfl, AVle.refl _, ⟨_, _, rfl, AVle.refl _, ⟨_, _, rfl, AVle.refl _, rfl⟩⟩⟩⟩⟩
end Go.Av
end

section
namespace Go.Av
open Go.Proofs
set_option maxRecDepth 100000
set_option maxHeartbeats 1000000
set_option linter.unusedSimpArgs false
variable {G : Glob}

def strsAt (L : List (List Int)) (p : Nat) : List (List UInt8) := L.map fun m => (grpsS m).getD p []
def lfK (ss : List (List UInt8)) : Nat → Nat
  | 0 => 0
  | k + 1 => max (lfK ss k) (ss.count (ss.getD k []))
theorem lfK_le {ss : List (List UInt8)} : ∀ k, lfK ss k ≤ ss.length := fun k => by
  induction k with
  | zero => exact Nat.zero_le _
  | succ k ih => rw [lfK]; have : ss.count (ss.getD k []) ≤ ss.length := List.count_le_length; omega
theorem lfK_ge {ss : List (List UInt8)} : ∀ {k i : Nat}, i < k → ss.count (ss.getD i []) ≤ lfK ss k := by
  intro k
  induction k with
  | zero => intro i h; omega
  | succ k ih =>
    intro i h
    rw [lfK]
    by_cases e : i = k
    · subst e; omega
    · have := ih (i := i) (by omega); omega
theorem lfK_at {ss : List (List UInt8)} : ∀ {k : Nat}, 0 < k → ∃ i, i < k ∧ lfK ss k = ss.count (ss.getD i []) := by
  intro k
  induction k with
  | zero => intro h; omega
  | succ k ih =>
    intro _
    rw [lfK]
    by_cases h : lfK ss k ≤ ss.count (ss.getD k [])
    · exact ⟨k, by omega, by omega⟩
    · have hk : 0 < k := by
        rcases Nat.eq_zero_or_pos k with h0 | h0
        · subst h0; simp [lfK] at h
        · exact h0
      obtain ⟨i, hi, he⟩ := ih hk
      exact ⟨i, by omega, by omega⟩
theorem chs_inj {a b : G5} (ha : a.ok) (hb : b.ok) (h : a.chs = b.chs) : a = b := by
  unfold G5.ok at ha hb
  have z : ∀ {x y : Int}, 0 ≤ x ∧ x ≤ 9 → 0 ≤ y ∧ y ≤ 9 → chD x = chD y → x = y := fun {x y} hx hy e => by
    have h1 := chD_nat hx
    have h2 := chD_nat hy
    rw [e] at h1; omega
  cases a with
  | mk a1 a2 a3 a4 a5 =>
  cases b with
  | mk b1 b2 b3 b4 b5 =>
  simp only [G5.chs, List.cons.injEq, and_true] at h
  rw [G5.mk.injEq]
  exact ⟨z ha.1 hb.1 h.1, z ha.2.1 hb.2.1 h.2.1, z ha.2.2.1 hb.2.2.1 h.2.2.1, z ha.2.2.2.1 hb.2.2.2.1 h.2.2.2.1, z ha.2.2.2.2 hb.2.2.2.2 h.2.2.2.2⟩
theorem count_chs : ∀ {l : List G5} {a : G5}, (∀ g ∈ l, g.ok) → a.ok → (l.map G5.chs).count a.chs = l.count a := by
  intro l
  induction l with
  | nil => intro a _ _; rfl
  | cons g l ih =>
    intro a h ha
    rw [List.map_cons, List.count_cons, List.count_cons, ih (fun x hx => h x (List.mem_cons_of_mem _ hx)) ha]
    congr 1
    have hg := h g (List.mem_cons_self ..)
    by_cases e : g = a
    · subst e; simp
    · rw [if_neg (by simpa using fun q => e (chs_inj hg ha q)), if_neg (by simpa using e)]
theorem strs_keys {L : List (List Int)} {p : Nat} (h : ∀ m ∈ L, p ≤ m.length) : strsAt L p = (keysAt L p).map G5.chs := by
  unfold strsAt keysAt
  rw [List.map_map]
  refine List.map_congr_left fun m hm => ?_
  have hp : p < (grps m).length := by have := h m hm; simp [grps]; omega
  simp [grpsS, hp]
theorem keys_ok {L : List (List Int)} {p : Nat} (h : ∀ m ∈ L, p ≤ m.length) : ∀ g ∈ keysAt L p, g.ok := fun g hg => by
  obtain ⟨m, hm, rfl⟩ := List.mem_map.1 hg
  have hp : p < (grps m).length := by have := h m hm; simp [grps]; omega
  have e : (grps m).getD p ⟨0, 0, 0, 0, 0⟩ = (grps m)[p] := by simp [hp]
  simp only [e]
  exact grps_ok _ (List.getElem_mem hp)
theorem left_many {L : List (List Int)} {p : Nat} (h : ∀ m ∈ L, p ≤ m.length) : lfK (strsAt L p) L.length = manyAt L p := by
  have hk := keys_ok h
  have hl := keys_len L p
  rcases Nat.eq_zero_or_pos L.length with h0 | h0
  · unfold manyAt; rw [h0]; rfl
  · have hsl : (strsAt L p).length = L.length := by simp [strsAt]
    apply Nat.le_antisymm
    · obtain ⟨i, hi, he⟩ := lfK_at (ss := strsAt L p) h0
      rw [he, strs_keys h]
      have e : ((keysAt L p).map G5.chs).getD i [] = ((keysAt L p)[i]'(by omega)).chs := by simp [show i < (keysAt L p).length by omega]
      rw [e, count_chs hk (hk _ (List.getElem_mem _))]
      have := mxK_ge (ks := keysAt L p) ((keysAt L p)[i]'(by omega)) (k := L.length) (by omega)
      rw [List.take_of_length_le (by omega)] at this
      exact this
    · obtain ⟨g, hg, he⟩ := mxK_at (ks := keysAt L p) (k := L.length) (by omega) h0
      unfold manyAt
      rw [he, List.take_of_length_le (by omega), ← count_chs hk (hk g hg), ← strs_keys h]
      obtain ⟨i, hi, rfl⟩ := List.getElem_of_mem hg
      have e : (strsAt L p).getD i [] = ((keysAt L p)[i]).chs := by rw [strs_keys h]; simp [hi]
      rw [← e]
      exact lfK_ge (by omega)
theorem many_ge {L : List (List Int)} {p i : Nat} (h : ∀ m ∈ L, p ≤ m.length) (hi : i < L.length) : (strsAt L p).count ((strsAt L p).getD i []) ≤ manyAt L p := by
  rw [← left_many h]; exact lfK_ge hi
theorem best_spec {D : List (Int × Int)} : ∀ {k : Nat}, k < D.length → (∃ i, i ≤ k ∧ bestK D k = D.getD i (0, 0)) ∧ ∀ i, i ≤ k → (bestK D k).2 ≤ (D.getD i (0, 0)).2 ∧ ((D.getD i (0, 0)).2 = (bestK D k).2 → ∃ j, j ≤ i ∧ bestK D k = D.getD j (0, 0)) := by
  intro k
  induction k with
  | zero =>
    intro h
    refine ⟨⟨0, by omega, rfl⟩, fun i hi => ?_⟩
    have : i = 0 := by omega
    subst this
    exact ⟨Int.le_refl _, fun _ => ⟨0, by omega, rfl⟩⟩
  | succ k ih =>
    intro h
    obtain ⟨⟨i0, h1, h2⟩, h3⟩ := ih (by omega)
    by_cases hc : (D.getD (k + 1) (0, 0)).2 < (bestK D k).2
    · have e : bestK D (k + 1) = D.getD (k + 1) (0, 0) := by rw [bestK, if_pos hc]
      rw [e]
      refine ⟨⟨k + 1, by omega, rfl⟩, fun i hi => ?_⟩
      by_cases hik : i = k + 1
      · subst hik; exact ⟨Int.le_refl _, fun _ => ⟨k + 1, by omega, rfl⟩⟩
      · have := (h3 i (by omega)).1
        exact ⟨by omega, fun q => by omega⟩
    · have e : bestK D (k + 1) = bestK D k := by rw [bestK, if_neg hc]
      rw [e]
      refine ⟨⟨i0, by omega, h2⟩, fun i hi => ?_⟩
      by_cases hik : i = k + 1
      · subst hik; exact ⟨by omega, fun _ => ⟨i0, by omega, h2⟩⟩
      · exact h3 i (by omega)
theorem dbtL_at {n i : Nat} {L : List (List Int)} (h : i < n) : (dbtL n L).getD i (0, 0) = ((i : Int), (manyAt L i : Int)) := by simp [dbtL, h]
theorem dbt_best (n : Nat) (h : 0 < n) (L : List (List Int)) : ∃ g : Nat, g < n ∧ bestD (dbtL n L) = ((g : Int), (manyAt L g : Int)) ∧ ∀ i, i < n → manyAt L g ≤ manyAt L i ∧ (manyAt L i = manyAt L g → g ≤ i) := by
  obtain ⟨⟨g, h1, h2⟩, h3⟩ := best_spec (D := dbtL n L) (k := n - 1) (by rw [dbtL_len]; omega)
  have hb : bestD (dbtL n L) = bestK (dbtL n L) (n - 1) := by unfold bestD; rw [dbtL_len]
  rw [dbtL_at (by omega)] at h2
  refine ⟨g, by omega, by rw [hb, h2], fun i hi => ?_⟩
  obtain ⟨h4, h5⟩ := h3 i (by omega)
  rw [dbtL_at hi, h2] at h4
  refine ⟨by simp only at h4; omega, fun e => ?_⟩
  rw [dbtL_at hi, h2] at h5
  obtain ⟨j, hj, ej⟩ := h5 (by simp only; omega)
  rw [dbtL_at (by omega)] at ej
  injection ej with ej _
  omega
theorem strs_get {L : List (List Int)} {p i : Nat} (h : i < L.length) : (strsAt L p).getD i [] = (grpsS L[i]).getD p [] := by simp [strsAt, h]
theorem strs_len (L : List (List Int)) (p : Nat) : (strsAt L p).length = L.length := by simp [strsAt]
theorem grpsS_at {m : List Int} {p : Nat} (h : p ≤ m.length) : ((grpsS m).map fun s => [eS s])[p]? = some [eS ((grpsS m).getD p [])] := by
  have : p < (grpsS m).length := by rw [grpsS_n]; omega
  simp [this]
theorem all_step {L : List (List Int)} {p k : Nat} (h : k < L.length) : ((L.take k).map fun m => [SL ((grpsS m).getD p [])]) ++ [[SL ((grpsS L[k]).getD p [])]] = (L.take (k + 1)).map fun m => [SL ((grpsS m).getD p [])] := by
  rw [List.take_succ_eq_append_getElem h, List.map_append]; rfl
theorem all_rows (L : List (List Int)) (p : Nat) : (L.map fun m => [SL ((grpsS m).getD p [])]) = sRows (strsAt L p) := by simp [sRows, strsAt]
theorem cntS_step {ss : List (List UInt8)} {j : Nat} (h : j < ss.length) (s : List UInt8) : ((ss.take (j + 1)).count s : Nat) = (ss.take j).count s + if ss.getD j [] = s then 1 else 0 := by
  rw [List.take_succ_eq_append_getElem h, List.count_append]
  have : ss.getD j [] = ss[j] := by simp [h]
  rw [this]
  by_cases e : ss[j] = s <;> simp [e]

theorem f45 (L : List (List Int)) (p : Nat) (hL : L.length ≤ 4000000) (hm : ∀ m ∈ L, p ≤ m.length ∧ m.length ≤ 1000 ∧ ∀ x ∈ m, 0 ≤ x ∧ x ≤ 1000000000000) : ACall Tryz.prog G 45 [eIntss L, ei (p : Int)] (ei ((lfK (strsAt L p) L.length : Nat) : Int)) := by
 refine acall_of Tryz.func45 rfl (by kernel_rfl) rfl ?_
 refine ac_seq ?_
 refine ac_region ?_
 refine al_y rfl rfl (y_assignV rfl rfl) ?_
 refine al_nil ?_
 refine qt_normal ?_
 refine ac_seq ?_
 refine ac_region ?_
 refine al_y rfl rfl (y_assignV rfl rfl) ?_
 refine al_nil ?_
 refine qt_normal ?_
 refine ac_seq ?_
 refine ac_region ?_
 refine al_y rfl rfl (y_assignV rfl rfl) ?_
 refine al_nil ?_
 refine qt_normal ?_
 refine ac_seq ?_
 refine ac_seq ?_
 refine ac_region ?_
 refine al_y rfl rfl (y_assignV rfl rfl) ?_
 refine al_nil ?_
 refine qt_normal ?_
 refine ac_block ?_
 refine ac_weak (weak_nil 6 rfl) ?_
 refine ac_loop (ι := { k : Nat // k ≤ L.length }) (fun k => ⟨Tryz.f45.ntmps, frL [(0, .pub (eIntss L)), (1, I (p : Int)), (5, I 0), (6, .psl 0 k.1), (7, I (k.1 : Int))], [.row ((L.take k.1).map fun m => [SL ((grpsS m).getD p [])])]⟩) (fun k => L.length - k.1) (⟨0, by omega⟩) ?_ ?_
 ·
  exact weak_frM _ ⟨rfl, rfl, rfl, rfl, rfl, trivial⟩ (rfl)
 ·
  rintro ⟨k, hk⟩
  dsimp only
  refine ac_seq ?_
  refine ac_seq ?_
  refine ac_region ?_
  refine al_y rfl rfl (y_moveV rfl rfl) ?_
  refine al_y rfl rfl (y_moveP rfl rfl) ?_
  refine al_y rfl rfl (y_len rfl rfl rfl Tryz.underlying30) ?_
  refine al_y rfl rfl (y_lss rfl rfl rfl) ?_
  refine al_nil ?_
  refine qt_normal ?_
  refine ac_cond rfl (fun h_0 => ?_) (fun h_0 => ?_)
  ·
   have hlt : k < L.length := by simpa [eIntss] using h_0
   have hmk := hm _ (List.getElem_mem hlt)
   refine ac_skip ?_
   refine qt_normal ?_
   refine ac_seq ?_
   refine ac_block ?_
   refine ac_region ?_
   refine al_y rfl rfl (y_moveS rfl rfl) ?_
   refine al_y rfl rfl (y_moveP rfl rfl) ?_
   refine al_y rfl rfl (y_moveV rfl rfl) ?_
   refine al_y rfl rfl (y_indexAddr rfl rfl rfl slc30 (by omega) (ints_at hlt) ints_len) ?_
   refine al_y rfl rfl (y_load1 rfl rfl rfl ty23) ?_
   refine al_y rfl rfl (y_callF (av := [_]) rfl ⟨rfl, trivial⟩ (f35 L[k] hmk.2.1 hmk.2.2)) ?_
   refine al_y rfl rfl (y_moveV rfl rfl) ?_
   refine al_y rfl rfl (y_indexAddr rfl rfl rfl slc34 (by omega) (grpsS_at hmk.1) str_len) ?_
   refine al_y rfl rfl (y_load1 rfl rfl rfl ty9) ?_
   refine al_y rfl rfl (y_buildSlice (size := 1) (rows := [[_]]) rfl Tryz.underlying34 ti9 rfl (by decide) rfl (by decide) ⟨_, _, rfl, (cE_v rfl), rfl⟩ (by rfl) (by simp [ofV]) rfl (by simp)) ?_
   refine al_m rfl (m_append rfl rfl rfl rfl (by simp; omega) rfl el34 (by intro r hr; obtain ⟨n, _, rfl⟩ := List.mem_map.1 hr; rfl) (by simp) (by simp; omega) (by unfold maxLen; simp; omega)) ?_
   refine al_y rfl rfl (y_assignS rfl rfl) ?_
   refine al_nil ?_
   refine qb_normal ?_
   refine qt_normal ?_
   refine ac_region ?_
   refine al_y rfl rfl (y_moveV rfl rfl) ?_
   refine al_y rfl rfl (y_add rfl rfl rfl ⟨(by omega), (by omega)⟩) ?_
   refine al_y rfl rfl (y_assignV rfl rfl) ?_
   refine al_nil ?_
   exact ⟨⟨k + 1, by omega⟩, by dsimp only; omega, weak_frM _ ⟨rfl, rfl, rfl, rfl, rfl, trivial⟩ (congrArg (fun z => [PO.row z]) (all_step hlt))⟩
  ·
   have hge : L.length ≤ k := by simpa [eIntss] using h_0
   have hk2 : k = L.length := by omega
   refine ac_exit ?_
   refine qt_exit ?_
   refine qt_exit ?_
   refine qb_exit ?_
   refine qt_normal ?_
   refine ac_seq ?_
   refine ac_seq ?_
   refine ac_region ?_
   refine al_y rfl rfl (y_assignV rfl rfl) ?_
   refine al_nil ?_
   refine qt_normal ?_
   refine ac_block ?_
   refine ac_loop (ι := { i : Nat // i ≤ L.length }) (fun i => ⟨Tryz.f45.ntmps, frL [(5, I ((lfK (strsAt L p) i.1 : Nat) : Int)), (6, .psl 0 L.length), (8, I (i.1 : Int))], [.row (sRows (strsAt L p))]⟩) (fun i => L.length - i.1) (⟨0, by omega⟩) ?_ ?_
   ·
    exact weak_frM _ ⟨rfl, (congrArg (EV.psl 0) hk2), rfl, trivial⟩ ((by rw [hk2, List.take_length]; exact congrArg (fun z => [PO.row z]) (all_rows L p)))
   ·
    rintro ⟨i, hi⟩
    dsimp only
    refine ac_seq ?_
    refine ac_seq ?_
    refine ac_region ?_
    refine al_y rfl rfl (y_moveV rfl rfl) ?_
    refine al_y rfl rfl (y_moveS rfl rfl) ?_
    refine al_y rfl rfl (y_len_psl rfl rfl rfl (by rw [sRows_len, strs_len]) Tryz.underlying34) ?_
    refine al_y rfl rfl (y_lss rfl rfl rfl) ?_
    refine al_nil ?_
    refine qt_normal ?_
    refine ac_cond rfl (fun h_1 => ?_) (fun h_1 => ?_)
    ·
     have hli : i < L.length := by simp at h_1; omega
     have lb := lfK_le (ss := strsAt L p) i
     rw [strs_len] at lb
     refine ac_skip ?_
     refine qt_normal ?_
     refine ac_seq ?_
     refine ac_block ?_
     refine ac_seq ?_
     refine ac_region ?_
     refine al_y rfl rfl (y_assignV rfl rfl) ?_
     refine al_nil ?_
     refine qt_normal ?_
     refine ac_seq ?_
     refine ac_seq ?_
     refine ac_region ?_
     refine al_y rfl rfl (y_assignV rfl rfl) ?_
     refine al_nil ?_
     refine qt_normal ?_
     refine ac_block ?_
     refine ac_loop (ι := { j : Nat // j ≤ L.length }) (fun j => ⟨Tryz.f45.ntmps, frL [(5, I ((lfK (strsAt L p) i : Nat) : Int)), (6, .psl 0 L.length), (8, I (i : Int)), (9, I ((((strsAt L p).take j.1).count ((strsAt L p).getD i []) : Nat) : Int)), (10, I (j.1 : Int))], [.row (sRows (strsAt L p))]⟩) (fun j => L.length - j.1) (⟨0, by omega⟩) ?_ ?_
     ·
      exact weak_frM _ ⟨rfl, rfl, rfl, rfl, rfl, trivial⟩ (rfl)
     ·
      rintro ⟨j, hj⟩
      dsimp only
      refine ac_seq ?_
      refine ac_seq ?_
      refine ac_region ?_
      refine al_y rfl rfl (y_moveV rfl rfl) ?_
      refine al_y rfl rfl (y_moveS rfl rfl) ?_
      refine al_y rfl rfl (y_len_psl rfl rfl rfl (by rw [sRows_len, strs_len]) Tryz.underlying34) ?_
      refine al_y rfl rfl (y_lss rfl rfl rfl) ?_
      refine al_nil ?_
      refine qt_normal ?_
      refine ac_cond rfl (fun h_2 => ?_) (fun h_2 => ?_)
      ·
       have hlj : j < L.length := by simp at h_2; omega
       have hcs := cntS_step (ss := strsAt L p) (j := j) (by rw [strs_len]; exact hlj) ((strsAt L p).getD i [])
       have hcl : ((strsAt L p).take j).count ((strsAt L p).getD i []) ≤ ((strsAt L p).take j).length := List.count_le_length
       rw [List.length_take, strs_len] at hcl
       refine ac_skip ?_
       refine qt_normal ?_
       refine ac_seq ?_
       refine ac_block ?_
       refine ac_seq ?_
       refine ac_draw mixed (by kernel_rfl) rfl ?_
       refine aq_y rfl (y_moveS rfl rfl) ?_
       refine aq_y rfl (y_moveV rfl rfl) ?_
       refine aq_y rfl (y_indexAddr_psl rfl rfl rfl rfl (by rw [sRows_len, strs_len]) slc34 (by omega) (by omega) (sRows_one _)) ?_
       refine aq_y rfl (y_load_pp1 (c := SL ((strsAt L p).getD j [])) rfl rfl rfl (by rw [sRows_len, strs_len]) (sRows_get (by rw [strs_len]; omega)) rfl ty9) ?_
       refine aq_y rfl (y_moveS rfl rfl) ?_
       refine aq_y rfl (y_moveV rfl rfl) ?_
       refine aq_y rfl (y_indexAddr_psl rfl rfl rfl rfl (by rw [sRows_len, strs_len]) slc34 (by omega) (by omega) (sRows_one _)) ?_
       refine aq_y rfl (y_load_pp1 (c := SL ((strsAt L p).getD i [])) rfl rfl rfl (by rw [sRows_len, strs_len]) (sRows_get (by rw [strs_len]; omega)) rfl ty9) ?_
       refine aq_y rfl (y_eqlS rfl rfl rfl) ?_
       refine aq_nil ?_
       refine qt_normal ?_
       refine ac_cond rfl (fun h_3 => ?_) (fun h_3 => ?_)
       ·
        have hb : (strsAt L p).getD j [] = (strsAt L p).getD i [] := by simpa using h_3
        rw [if_pos hb] at hcs
        refine ac_region ?_
        refine al_y rfl rfl (y_moveV rfl rfl) ?_
        refine al_y rfl rfl (y_add rfl rfl rfl ⟨(by omega), (by omega)⟩) ?_
        refine al_y rfl rfl (y_assignV rfl rfl) ?_
        refine al_nil ?_
        refine qb_normal ?_
        refine qt_normal ?_
        refine ac_region ?_
        refine al_y rfl rfl (y_moveV rfl rfl) ?_
        refine al_y rfl rfl (y_add rfl rfl rfl ⟨(by omega), (by omega)⟩) ?_
        refine al_y rfl rfl (y_assignV rfl rfl) ?_
        refine al_nil ?_
        exact ⟨⟨j + 1, by omega⟩, by dsimp only; omega, weak_frM _ ⟨rfl, rfl, rfl, (congrArg I (by rw [hcs]; omega)), rfl, trivial⟩ (rfl)⟩
       ·
        have hb : ¬ (strsAt L p).getD j [] = (strsAt L p).getD i [] := by simpa using h_3
        rw [if_neg hb, Nat.add_zero] at hcs
        refine ac_skip ?_
        refine qb_normal ?_
        refine qt_normal ?_
        refine ac_region ?_
        refine al_y rfl rfl (y_moveV rfl rfl) ?_
        refine al_y rfl rfl (y_add rfl rfl rfl ⟨(by omega), (by omega)⟩) ?_
        refine al_y rfl rfl (y_assignV rfl rfl) ?_
        refine al_nil ?_
        exact ⟨⟨j + 1, by omega⟩, by dsimp only; omega, weak_frM _ ⟨rfl, rfl, rfl, (congrArg I (by rw [hcs]; omega)), rfl, trivial⟩ (rfl)⟩
      ·
       have hgj : L.length ≤ j := by simp at h_2; omega
       have hj2 : j = L.length := by omega
       refine ac_exit ?_
       refine qt_exit ?_
       refine qt_exit ?_
       refine qb_exit ?_
       refine qt_normal ?_
       refine ac_region ?_
       refine al_y rfl rfl (y_moveV rfl rfl) ?_
       refine al_y rfl rfl (y_moveV rfl rfl) ?_
       refine al_y rfl rfl (y_max rfl rfl rfl) ?_
       refine al_y rfl rfl (y_assignV rfl rfl) ?_
       refine al_nil ?_
       refine qb_normal ?_
       refine qt_normal ?_
       refine ac_region ?_
       refine al_y rfl rfl (y_moveV rfl rfl) ?_
       refine al_y rfl rfl (y_add rfl rfl rfl ⟨(by omega), (by omega)⟩) ?_
       refine al_y rfl rfl (y_assignV rfl rfl) ?_
       refine al_nil ?_
       exact ⟨⟨i + 1, by omega⟩, by dsimp only; omega, weak_frM _ ⟨(congrArg I (show max ((lfK (strsAt L p) i : Nat) : Int) ((((strsAt L p).take j).count ((strsAt L p).getD i []) : Nat) : Int) = ((lfK (strsAt L p) (i + 1) : Nat) : Int) by rw [lfK, hj2, List.take_of_length_le (by rw [strs_len]; exact Nat.le_refl _)]; omega)), rfl, rfl, trivial⟩ (rfl)⟩
    ·
     have hgi : L.length ≤ i := by simp at h_1; omega
     have hi2 : i = L.length := by omega
     refine ac_exit ?_
     refine qt_exit ?_
     refine qt_exit ?_
     refine qb_exit ?_
     refine qt_normal ?_
     refine ac_seq ?_
     refine ac_region ?_
     refine al_y rfl rfl (y_moveV rfl rfl) ?_
     refine al_y rfl rfl (y_assignV rfl rfl) ?_
     refine al_nil ?_
     refine qt_normal ?_
     refine ac_ret ?_
     exact ⟨.inr rfl, AVle.of (by rw [hi2]; rfl)⟩
end Go.Av
end
