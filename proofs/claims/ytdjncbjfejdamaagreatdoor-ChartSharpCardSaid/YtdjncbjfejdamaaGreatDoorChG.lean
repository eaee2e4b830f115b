/- chart.Bounds, chart.Check. -/
import Derived.Test.YtdjncbjfejdamaaGreatDoorChF
import Derived.Laws.StructEq
import Derived.Tactics2
import Derived.StillTactics
set_option linter.unusedVariables false
set_option linter.unusedSimpArgs false
section
namespace Go.Av
open Go.Proofs
set_option maxRecDepth 100000
set_option maxHeartbeats 1000000
set_option linter.unusedSimpArgs false
variable {G : Glob}

theorem eq76 (a b c d : Int) (w : World) : (Op.equalIn 10000 76 (.agg #[.int .i64 a, .int .i64 b]) (.agg #[.int .i64 c, .int .i64 d])).run Tryz.prog w = .ok (a == c && b == d) w := by
  have u3 := Tryz.underlying3
  have a3 := Tryz.isAgg3
  have z3 := Tryz.sizeOf3
  have hS : Tryz.prog.underlying 76 = some (.struct (Tryz.prog.fieldsOf 76)) := by kernel_rfl
  rw [show (10000 : Nat) = 9999 + 1 from rfl, run_equalIn_agg w 9999 76 _ _ hS (by kernel_rfl)]
  simp only [Program.fieldsOf, Tryz.underlying76]
  go_simp
  by_cases h1 : a = c <;> by_cases h2 : b = d <;> simp [h1, h2]
theorem guard76 (x y : Operand) (xs ys : Array Value) (w : World) : (eqGuard .neq 76 x y (.agg xs) (.agg ys)).run Tryz.prog w = .ok () w := by kernel_rfl
theorem y_neq_struct {fr : Nat → EV} {mem : List PO} {o : Oper} {U : TypeId} {x y : Operand} {a b c d : Int} (ho : o.op = .binOp .neq 76 x y U) (hx : evO fr x = .pub (.agg [.v (.int .i64 a), .v (.int .i64 b)])) (hy : evO fr y = .pub (.agg [.v (.int .i64 c), .v (.int .i64 d)])) : OpY Tryz.prog G fr mem o (B (!(a == c && b == d))) :=
  y_same fun ok bs w act _ _ hf => by
    have h1 := hf x (by simp [ho, Op.operands])
    have h2 := hf y (by simp [ho, Op.operands])
    rw [hx] at h1
    rw [hy] at h2
    simp only [FitsE, Fits, FitsL] at h1 h2
    obtain ⟨us, e1, _, _, _, rfl, ⟨rfl, _⟩, _, _, rfl, ⟨rfl, _⟩, rfl⟩ := h1
    obtain ⟨vs, e2, _, _, _, rfl, ⟨rfl, _⟩, _, _, rfl, ⟨rfl, _⟩, rfl⟩ := h2
    refine ⟨.bool (!(a == c && b == d)), ?_, fitsE_v rfl⟩
    simp only [execOp, ho, e1, e2]
    simp only [Sem.run_bind, guard76, Result.andThen_ok, run_neq_struct, eq76]
    simp
theorem bd_snoc {m : Mp} {k : Nat} (h1 : k < (los m).length) (h2 : k < (his m).length) : (List.range k).map (bdE m) ++ [[I (los m)[k], I (his m)[k]]] = (List.range (k + 1)).map (bdE m) := by
  rw [los_at h1, his_at h2]; exact range_snoc (bdE m) k

/-- chart.Check -/
theorem f52 (m : Mp) : ACall Tryz.prog G 52 [.agg (eMp m)] (.v (.int .i64 (if mapB m then 0 else 2))) := by
  refine acall_of Tryz.func52 rfl (by kernel_rfl) rfl ?_
  refine ac_seq ?_
  refine ac_region ?_
  refine al_y rfl rfl (y_box rfl (cE_agg rfl)) ?_
  refine al_y rfl rfl (y_assignV rfl rfl) ?_
  refine al_nil ?_
  refine qt_normal ?_
  refine ac_seq ?_
  refine ac_seq ?_
  refine ac_region ?_
  refine al_y rfl rfl (y_loadN rfl rfl ty24 (by exact Nat.le_of_ble_eq_true rfl)) ?_
  refine al_y rfl rfl (y_callF (av := [_]) rfl ⟨rfl, trivial⟩ (f99 m)) ?_
  refine al_y rfl rfl (y_not rfl rfl) ?_
  refine al_nil ?_
  refine qt_normal ?_
  refine ac_cond rfl (fun h0 => ?_) (fun h0 => ?_)
  · skip
    refine ac_seq ?_
    refine ac_region ?_
    refine al_y rfl rfl (y_assignV rfl rfl) ?_
    refine al_nil ?_
    refine qt_normal ?_
    refine ac_ret ?_
    refine qt_ret ?_
    exact ⟨.inr rfl, AVle.of (by simp at h0; simp [h0])⟩
  · skip
    refine ac_skip ?_
    refine qt_normal ?_
    refine ac_seq ?_
    refine ac_region ?_
    refine al_y rfl rfl (y_assignV rfl rfl) ?_
    refine al_nil ?_
    refine qt_normal ?_
    refine ac_ret ?_
    exact ⟨.inr rfl, AVle.of (by simp at h0; simp [h0])⟩

/-- chart.Bounds -/
theorem f50_bad (m : Mp) (hb : mapB m = false) : ACall Tryz.prog G 50 [.agg (eMp m)] (.tup [.sl [], ei 2]) := by
  refine acall_of Tryz.func50 rfl (by kernel_rfl) rfl ?_
  refine ac_seq ?_
  refine ac_region ?_
  refine al_y rfl rfl (y_box rfl (cE_agg rfl)) ?_
  refine al_y rfl rfl (y_assignV rfl rfl) ?_
  refine al_y rfl rfl (y_assignV rfl rfl) ?_
  refine al_nil ?_
  refine qt_normal ?_
  refine ac_seq ?_
  refine ac_region ?_
  refine al_y rfl rfl (y_loadN rfl rfl ty24 (by exact Nat.le_of_ble_eq_true rfl)) ?_
  refine al_y rfl rfl (y_callF (av := [_, _]) rfl ⟨rfl, rfl, trivial⟩ (f62_bad m hb 63 [] [])) ?_
  refine al_y rfl rfl (y_moveP rfl rfl) ?_
  refine al_y rfl rfl (y_extract rfl rfl rfl) ?_
  refine al_y rfl rfl (y_extract rfl rfl rfl) ?_
  refine al_pair  rfl rfl rfl rfl rfl rfl rfl zv101 ty101 rfl (by rfl) (cE_agg rfl) rfl ?_
  refine al_y rfl rfl (y_assignV rfl rfl) ?_
  refine al_nil ?_
  refine qt_normal ?_
  refine ac_seq ?_
  refine ac_seq ?_
  refine ac_region ?_
  refine al_y rfl rfl (y_moveV rfl rfl) ?_
  refine al_y rfl rfl (y_neq rfl rfl rfl) ?_
  refine al_nil ?_
  refine qt_normal ?_
  refine ac_cond rfl (fun h0 => ?_) (fun h0 => ?_)
  · skip
    refine ac_seq ?_
    refine ac_region ?_
    refine al_y rfl rfl (y_moveV rfl rfl) ?_
    refine al_y rfl rfl (y_assignV rfl rfl) ?_
    refine al_y rfl rfl (y_assignV rfl rfl) ?_
    refine al_nil ?_
    refine qt_normal ?_
    refine ac_ret ?_
    refine qt_ret ?_
    exact ⟨.inr rfl, ⟨_, rfl, ⟨_, _, rfl, AVle.nil, ⟨_, _, rfl, AVle.refl _, rfl⟩⟩⟩⟩
  · skip
    exfalso; simp at h0

/-- chart.Bounds -/
theorem f50_clash (m : Mp) (hm : okM m) (p : Nat × Nat) (hc : clashOf m = some p) : ACall Tryz.prog G 50 [.agg (eMp m)] (.tup [.sl [], ei 7]) := by
  refine acall_of Tryz.func50 rfl (by kernel_rfl) rfl ?_
  refine ac_seq ?_
  refine ac_region ?_
  refine al_y rfl rfl (y_box rfl (cE_agg rfl)) ?_
  refine al_y rfl rfl (y_assignV rfl rfl) ?_
  refine al_y rfl rfl (y_assignV rfl rfl) ?_
  refine al_nil ?_
  refine qt_normal ?_
  refine ac_seq ?_
  refine ac_region ?_
  refine al_y rfl rfl (y_loadN rfl rfl ty24 (by exact Nat.le_of_ble_eq_true rfl)) ?_
  refine al_y rfl rfl (y_callF (av := [_, _]) rfl ⟨rfl, rfl, trivial⟩ (f62_clash m hm 63 [] [] (f63 m) p hc)) ?_
  refine al_y rfl rfl (y_moveP rfl rfl) ?_
  refine al_y rfl rfl (y_extract rfl rfl rfl) ?_
  refine al_y rfl rfl (y_extract rfl rfl rfl) ?_
  refine al_pair  rfl rfl rfl rfl rfl rfl rfl zv101 ty101 rfl (by rfl) (cE_agg rfl) rfl ?_
  refine al_y rfl rfl (y_assignV rfl rfl) ?_
  refine al_nil ?_
  refine qt_normal ?_
  refine ac_seq ?_
  refine ac_seq ?_
  refine ac_region ?_
  refine al_y rfl rfl (y_moveV rfl rfl) ?_
  refine al_y rfl rfl (y_neq rfl rfl rfl) ?_
  refine al_nil ?_
  refine qt_normal ?_
  refine ac_cond rfl (fun h0 => ?_) (fun h0 => ?_)
  · skip
    refine ac_seq ?_
    refine ac_region ?_
    refine al_y rfl rfl (y_moveV rfl rfl) ?_
    refine al_y rfl rfl (y_assignV rfl rfl) ?_
    refine al_y rfl rfl (y_assignV rfl rfl) ?_
    refine al_nil ?_
    refine qt_normal ?_
    refine ac_ret ?_
    refine qt_ret ?_
    exact ⟨.inr rfl, ⟨_, rfl, ⟨_, _, rfl, AVle.nil, ⟨_, _, rfl, AVle.refl _, rfl⟩⟩⟩⟩
  · skip
    exfalso; simp at h0

/-- chart.Bounds -/
theorem f50_ok (m : Mp) (hm : okM m) (hc : clashOf m = none) : ACall Tryz.prog G 50 [.agg (eMp m)] (.tup [eSpans (bds m), ei 0]) := by
  have hn := npt_bd hm
  refine acall_of Tryz.func50 rfl (by kernel_rfl) rfl ?_
  refine ac_seq ?_
  refine ac_region ?_
  refine al_y rfl rfl (y_box rfl (cE_agg rfl)) ?_
  refine al_y rfl rfl (y_assignV rfl rfl) ?_
  refine al_y rfl rfl (y_assignV rfl rfl) ?_
  refine al_nil ?_
  refine qt_normal ?_
  refine ac_seq ?_
  refine ac_region ?_
  refine al_y rfl rfl (y_loadN rfl rfl ty24 (by exact Nat.le_of_ble_eq_true rfl)) ?_
  refine al_y rfl rfl (y_callF (av := [_, _]) rfl ⟨rfl, rfl, trivial⟩ (f62_ok m hm 63 [] [] (f63 m) hc)) ?_
  refine al_y rfl rfl (y_moveP rfl rfl) ?_
  refine al_y rfl rfl (y_extract rfl rfl rfl) ?_
  refine al_y rfl rfl (y_extract rfl rfl rfl) ?_
  refine al_pair  rfl rfl rfl rfl rfl rfl rfl zv101 ty101 rfl (by rfl) (cE_agg rfl) rfl ?_
  refine al_y rfl rfl (y_assignV rfl rfl) ?_
  refine al_nil ?_
  refine qt_normal ?_
  refine ac_seq ?_
  refine ac_seq ?_
  refine ac_region ?_
  refine al_y rfl rfl (y_moveV rfl rfl) ?_
  refine al_y rfl rfl (y_neq rfl rfl rfl) ?_
  refine al_nil ?_
  refine qt_normal ?_
  refine ac_cond rfl (fun h0 => ?_) (fun h0 => ?_)
  · skip
    exfalso; simp at h0
  · skip
    refine ac_skip ?_
    refine qt_normal ?_
    refine ac_seq ?_
    refine ac_region ?_
    refine al_y rfl rfl (y_loadN rfl rfl ty101 (by exact Nat.le_of_ble_eq_true rfl)) ?_
    refine al_y rfl rfl (y_callF (av := [_]) rfl ⟨rfl, trivial⟩ (f64 m hm)) ?_
    refine al_pair  rfl rfl rfl rfl rfl rfl rfl zv105 ty105 rfl (by rfl) (cE_agg rfl) rfl ?_
    refine al_nil ?_
    refine qt_normal ?_
    refine ac_seq ?_
    refine ac_region ?_
    refine al_y rfl rfl (y_assignV rfl rfl) ?_
    refine al_nil ?_
    refine qt_normal ?_
    refine ac_seq ?_
    refine ac_seq ?_
    refine ac_region ?_
    refine al_y rfl rfl (y_indexAddr_arr rfl rfl rfl arr105 (by omega) (by omega)) ?_
    refine al_y rfl rfl (y_load1 rfl rfl rfl ty27) ?_
    refine al_y rfl rfl (y_len rfl rfl rfl Tryz.underlying27) ?_
    refine al_y rfl rfl (y_moveV rfl rfl) ?_
    refine al_nil ?_
    refine qt_normal ?_
    refine ac_block ?_
    refine ac_weak (weak_nil 7 rfl) ?_
    refine ac_loop (ι := { k : Nat // k ≤ npt m }) (fun k => ⟨Tryz.f50.ntmps, frL [(6, .pub (.ptr [eInts (los m), eInts (his m)])), (7, .psl 0 k.1), (21, I (npt m : Int)), (22, I (k.1 : Int))], [.row ((List.range k.1).map (bdE m))]⟩) (fun k => npt m - k.1) (⟨0, by omega⟩) ?_ ?_
    · exact weak_frM _ ⟨rfl, rfl, (congrArg (fun x : Nat => I (x : Int)) (by simp [los])), rfl, trivial⟩ (rfl)
    · rintro ⟨k, hk⟩
      dsimp only
      refine ac_seq ?_
      refine ac_region ?_
      refine al_y rfl rfl (y_lss rfl rfl rfl) ?_
      refine al_nil ?_
      refine qt_normal ?_
      refine ac_seq ?_
      refine ac_cond rfl (fun h1 => ?_) (fun h1 => ?_)
      · skip
        have hlt : k < npt m := by simpa using h1
        have hl1 : k < (los m).length := by rw [los_len]; exact hlt
        have hl2 : k < (his m).length := by rw [his_len]; exact hlt
        have hb1 := los_bd hm hl1
        have hb2 := his_bd hm hl2
        refine ac_skip ?_
        refine qt_normal ?_
        refine ac_seq ?_
        refine ac_block ?_
        refine ac_seq ?_
        refine ac_region ?_
        refine al_y rfl rfl (y_moveV rfl rfl) ?_
        refine al_y rfl rfl (y_assignV rfl rfl) ?_
        refine al_nil ?_
        refine qt_normal ?_
        refine ac_mix (fun _ => True) (fun k => match k with | 1 => .stable | 2 => .stable | 3 => .stable | 4 => .stable | 5 => .stable | 6 => .stable | 7 => .stable | 8 => .stable | 9 => .stable | 10 => .stable | 11 => .stable | 13 => .writes | 14 => .stable | _ => .here) mixed (by kernel_rfl) rfl (by kernel_rfl) trivial ?_
        refine am_h rfl rfl (y_moveS rfl rfl) ?_
        refine am_s rfl rfl (fun m hm => y_indexAddr_arr rfl rfl rfl arr105 (by omega) (by omega)) ?_
        refine am_s rfl rfl (fun m hm => y_load1 rfl rfl rfl ty27) ?_
        refine am_s rfl rfl (fun m hm => y_moveV rfl rfl) ?_
        refine am_s rfl rfl (fun m hm => y_indexAddr rfl rfl rfl slc27 (by omega) (int_at hl1) int_len) ?_
        refine am_s rfl rfl (fun m hm => y_load1 rfl rfl rfl ty3) ?_
        refine am_s rfl rfl (fun m hm => y_indexAddr_arr rfl rfl rfl arr105 (by omega) (by omega)) ?_
        refine am_s rfl rfl (fun m hm => y_load1 rfl rfl rfl ty27) ?_
        refine am_s rfl rfl (fun m hm => y_moveV rfl rfl) ?_
        refine am_s rfl rfl (fun m hm => y_indexAddr rfl rfl rfl slc27 (by omega) (int_at hl2) int_len) ?_
        refine am_s rfl rfl (fun m hm => y_load1 rfl rfl rfl ty3) ?_
        refine am_s rfl rfl (fun m hm => y_build (cs := [_, _]) rfl st76 rfl ⟨_, _, rfl, (cE_v rfl), ⟨_, _, rfl, (cE_v rfl), rfl⟩⟩ (by rfl) (by simp [ofV])) ?_
        refine am_h rfl rfl (y_buildSlice (size := 2) (rows := [[_, _]]) rfl Tryz.underlying79 ti76 rfl (by decide) rfl (by decide) ⟨_, _, rfl, (cE_agg rfl), rfl⟩ (by rfl) (by simp [ofV]) rfl (by simp)) ?_
        refine am_w rfl rfl (opB_append rfl rfl rfl (by simp) rfl el79 (len_map2 fun _ => rfl) (by simp) (by simp; omega) (by unfold maxLen; simp; omega)) trivial ?_
        refine am_s rfl rfl (fun m hm => y_assignS rfl rfl) ?_
        refine am_nil ?_
        refine qb_normal ?_
        refine qt_normal ?_
        refine ac_region ?_
        refine al_y rfl rfl (y_add rfl rfl rfl ⟨(by omega), (by omega)⟩) ?_
        refine al_y rfl rfl (y_moveV rfl rfl) ?_
        refine al_nil ?_
        exact ⟨⟨k + 1, by omega⟩, by dsimp only; omega, weak_frM _ ⟨rfl, rfl, rfl, rfl, trivial⟩ (congrArg (fun z => [PO.row z]) (bd_snoc hl1 hl2))⟩
      · skip
        have hge : npt m ≤ k := by simpa using h1
        have hk2 : k = npt m := by omega
        subst hk2
        refine ac_exit ?_
        refine qt_exit ?_
        refine qt_exit ?_
        refine qb_exit ?_
        refine qt_normal ?_
        refine ac_seq ?_
        refine ac_region ?_
        refine al_y rfl rfl (y_moveS rfl rfl) ?_
        refine al_y rfl rfl (y_assignS rfl rfl) ?_
        refine al_y rfl rfl (y_assignV rfl rfl) ?_
        refine al_nil ?_
        refine qt_normal ?_
        refine ac_ret ?_
        exact ⟨.inr rfl, ⟨_, rfl, ⟨_, _, rfl, ⟨((bds m).map fun s => [AV.v (.int .i64 s.1), AV.v (.int .i64 s.2)]), by show some (PO.row _) = some (PO.row _); simp [bds, bdE, Function.comp_def], by simp [bds], rfl⟩, ⟨_, _, rfl, AVle.refl _, rfl⟩⟩⟩⟩

/-- isobarref03.SameSpans -/
theorem f51 (l : List (Int × Int)) (hl : l.length ≤ 1000) : ACall Tryz.prog G 51 [eSpans l, eSpans l] (.v (.bool true)) := by
  refine acall_of Tryz.func51 rfl (by kernel_rfl) rfl ?_
  refine ac_seq ?_
  refine ac_region ?_
  refine al_y rfl rfl (y_assignV rfl rfl) ?_
  refine al_nil ?_
  refine qt_normal ?_
  refine ac_seq ?_
  refine ac_seq ?_
  refine ac_region ?_
  refine al_y rfl rfl (y_moveP rfl rfl) ?_
  refine al_y rfl rfl (y_len rfl rfl rfl Tryz.underlying79) ?_
  refine al_y rfl rfl (y_moveP rfl rfl) ?_
  refine al_y rfl rfl (y_len rfl rfl rfl Tryz.underlying79) ?_
  refine al_y rfl rfl (y_neq rfl rfl rfl) ?_
  refine al_nil ?_
  refine qt_normal ?_
  refine ac_cond rfl (fun h0 => ?_) (fun h0 => ?_)
  · skip
    exfalso; simp at h0
  · skip
    refine ac_skip ?_
    refine qt_normal ?_
    refine ac_seq ?_
    refine ac_seq ?_
    refine ac_region ?_
    refine al_y rfl rfl (y_assignV rfl rfl) ?_
    refine al_nil ?_
    refine qt_normal ?_
    refine ac_block ?_
    refine ac_loop (ι := { k : Nat // k ≤ l.length }) (fun k => ⟨Tryz.f51.ntmps, frL [(0, .pub (eSpans l)), (1, .pub (eSpans l)), (5, I (k.1 : Int))], []⟩) (fun k => l.length - k.1) (⟨0, by simp⟩) ?_ ?_
    · exact weak_frM _ ⟨rfl, rfl, rfl, trivial⟩ (rfl)
    · rintro ⟨k, hk⟩
      dsimp only
      refine ac_seq ?_
      refine ac_seq ?_
      refine ac_region ?_
      refine al_y rfl rfl (y_moveV rfl rfl) ?_
      refine al_y rfl rfl (y_moveP rfl rfl) ?_
      refine al_y rfl rfl (y_len rfl rfl rfl Tryz.underlying79) ?_
      refine al_y rfl rfl (y_lss rfl rfl rfl) ?_
      refine al_nil ?_
      refine qt_normal ?_
      refine ac_cond rfl (fun h1 => ?_) (fun h1 => ?_)
      · skip
        have hlt : k < l.length := by simpa using h1
        refine ac_skip ?_
        refine qt_normal ?_
        refine ac_seq ?_
        refine ac_block ?_
        refine ac_seq ?_
        refine ac_draw mixed (by kernel_rfl) rfl ?_
        refine aq_y rfl (y_moveP rfl rfl) ?_
        refine aq_y rfl (y_moveV rfl rfl) ?_
        refine aq_y rfl (y_indexAddr rfl rfl rfl slc79 (by omega) (span_at hlt) span_len) ?_
        refine aq_y rfl (y_loadN rfl rfl ty76 (by exact Nat.le_of_ble_eq_true rfl)) ?_
        refine aq_y rfl (y_moveP rfl rfl) ?_
        refine aq_y rfl (y_moveV rfl rfl) ?_
        refine aq_y rfl (y_indexAddr rfl rfl rfl slc79 (by omega) (span_at hlt) span_len) ?_
        refine aq_y rfl (y_loadN rfl rfl ty76 (by exact Nat.le_of_ble_eq_true rfl)) ?_
        refine aq_y rfl (y_neq_struct rfl rfl rfl) ?_
        refine aq_nil ?_
        refine qt_normal ?_
        refine ac_cond rfl (fun h2 => ?_) (fun h2 => ?_)
        · skip
          exfalso; simp at h2
        · skip
          refine ac_skip ?_
          refine qb_normal ?_
          refine qt_normal ?_
          refine ac_region ?_
          refine al_y rfl rfl (y_moveV rfl rfl) ?_
          refine al_y rfl rfl (y_add rfl rfl rfl ⟨(by omega), (by omega)⟩) ?_
          refine al_y rfl rfl (y_assignV rfl rfl) ?_
          refine al_nil ?_
          exact ⟨⟨k + 1, by omega⟩, by dsimp only; omega, weak_frM _ ⟨rfl, rfl, rfl, trivial⟩ (rfl)⟩
      · skip
        have hge : l.length ≤ k := by simpa using h1
        refine ac_exit ?_
        refine qt_exit ?_
        refine qt_exit ?_
        refine qb_exit ?_
        refine qt_normal ?_
        refine ac_seq ?_
        refine ac_region ?_
        refine al_y rfl rfl (y_assignV rfl rfl) ?_
        refine al_nil ?_
        refine qt_normal ?_
        refine ac_ret ?_
        exact ⟨.inr rfl, AVle.refl _⟩
end Go.Av
end
