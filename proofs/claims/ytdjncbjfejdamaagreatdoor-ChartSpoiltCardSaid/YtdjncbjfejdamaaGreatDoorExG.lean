/- The document's rows. -/
import Derived.Test.YtdjncbjfejdamaaGreatDoorExA
import Derived.Test.YtdjncbjfejdamaaGreatDoorExB
import Derived.Test.YtdjncbjfejdamaaGreatDoorExC
import Derived.Test.YtdjncbjfejdamaaGreatDoorExD
import Derived.Test.YtdjncbjfejdamaaGreatDoorExE
import Derived.Test.YtdjncbjfejdamaaGreatDoorExF
import Derived.KernelRfl
set_option linter.unusedVariables false
set_option linter.unusedSimpArgs false
section
namespace Go.Av
open Go.Proofs
set_option maxRecDepth 100000
set_option maxHeartbeats 1000000
set_option linter.unusedSimpArgs false
variable {G : Glob}
theorem st50 : structIs Tryz.prog 50 [(0, 1), (1, 1)] [.int .i64 0, .int .i64 0] := ⟨_, Tryz.underlying50, by kernel_rfl, by kernel_rfl⟩
theorem ti50 : Tryz.prog.info? 50 = some Tryz.t50 := by kernel_rfl
theorem ti48 : Tryz.prog.info? 48 = some Tryz.t48 := by kernel_rfl

theorem kC : okM mapM := (okM_iff mapM).1 (by kernel_rfl)
theorem d22 : ACall Tryz.prog GT 22 [.agg (eMp mapM)] (.tup [.agg (eFld fldM), ei 0]) := drawM ▸ f22_ok mapM kC clashM

/-- isobarlaw03.known -/
theorem known : KN GT := by
  refine acall_of Tryz.func21 rfl (by kernel_rfl) rfl ?_
  refine ac_seq ?_
  refine ac_region ?_
  refine al_y rfl rfl (y_assignV rfl rfl) ?_
  refine al_nil ?_
  refine qt_normal ?_
  refine ac_seq ?_
  refine ac_region ?_
  refine al_y rfl rfl (y_callF (av := []) rfl trivial d60) ?_
  refine al_y rfl rfl (y_callF (av := [_]) rfl ⟨rfl, trivial⟩ d22) ?_
  refine al_y rfl rfl (y_moveP rfl rfl) ?_
  refine al_y rfl rfl (y_extract rfl rfl rfl) ?_
  refine al_y rfl rfl (y_extract rfl rfl rfl) ?_
  refine al_pair  rfl rfl rfl rfl rfl rfl rfl zv29 ty29 rfl (by rfl) (cE_agg rfl) rfl ?_
  refine al_y rfl rfl (y_assignV rfl rfl) ?_
  refine al_nil ?_
  refine qt_normal ?_
  refine ac_seq ?_
  refine ac_region ?_
  refine al_y rfl rfl (y_loadN rfl rfl ty29 (by exact Nat.le_of_ble_eq_true rfl)) ?_
  refine al_y rfl rfl (y_callF (av := [_]) rfl ⟨rfl, trivial⟩ d56) ?_
  refine al_y rfl rfl (y_moveP rfl rfl) ?_
  refine al_y rfl rfl (y_extract rfl rfl rfl) ?_
  refine al_y rfl rfl (y_extract rfl rfl rfl) ?_
  refine al_y rfl rfl (y_assignV rfl rfl) ?_
  refine al_y rfl rfl (y_assignV rfl rfl) ?_
  refine al_nil ?_
  refine qt_normal ?_
  refine ac_seq ?_
  refine ac_region ?_
  refine al_y rfl rfl (y_loadN rfl rfl ty29 (by exact Nat.le_of_ble_eq_true rfl)) ?_
  refine al_y rfl rfl (y_callF (av := [_, _]) rfl ⟨rfl, rfl, trivial⟩ (d27a)) ?_
  refine al_y rfl rfl (y_moveP rfl rfl) ?_
  refine al_y rfl rfl (y_extract rfl rfl rfl) ?_
  refine al_y rfl rfl (y_extract rfl rfl rfl) ?_
  refine al_y rfl rfl (y_assignP rfl rfl) ?_
  refine al_y rfl rfl (y_assignV rfl rfl) ?_
  refine al_nil ?_
  refine qt_normal ?_
  refine ac_seq ?_
  refine ac_region ?_
  refine al_y rfl rfl (y_loadN rfl rfl ty29 (by exact Nat.le_of_ble_eq_true rfl)) ?_
  refine al_y rfl rfl (y_callF (av := [_, _]) rfl ⟨rfl, rfl, trivial⟩ (d27b)) ?_
  refine al_y rfl rfl (y_moveP rfl rfl) ?_
  refine al_y rfl rfl (y_extract rfl rfl rfl) ?_
  refine al_y rfl rfl (y_extract rfl rfl rfl) ?_
  refine al_y rfl rfl (y_assignP rfl rfl) ?_
  refine al_y rfl rfl (y_assignV rfl rfl) ?_
  refine al_nil ?_
  refine qt_normal ?_
  refine ac_seq ?_
  refine ac_region ?_
  refine al_y rfl rfl (y_callF (av := []) rfl trivial d61) ?_
  refine al_y rfl rfl (y_callF (av := [_, _, _]) rfl ⟨rfl, rfl, rfl, trivial⟩ (d37a)) ?_
  refine al_y rfl rfl (y_moveP rfl rfl) ?_
  refine al_y rfl rfl (y_extract rfl rfl rfl) ?_
  refine al_y rfl rfl (y_extract rfl rfl rfl) ?_
  refine al_y rfl rfl (y_assignV rfl rfl) ?_
  refine al_y rfl rfl (y_assignV rfl rfl) ?_
  refine al_nil ?_
  refine qt_normal ?_
  refine ac_seq ?_
  refine ac_region ?_
  refine al_y rfl rfl (y_callF (av := []) rfl trivial d61) ?_
  refine al_y rfl rfl (y_callF (av := [_, _, _]) rfl ⟨rfl, rfl, rfl, trivial⟩ (d37b)) ?_
  refine al_y rfl rfl (y_moveP rfl rfl) ?_
  refine al_y rfl rfl (y_extract rfl rfl rfl) ?_
  refine al_y rfl rfl (y_extract rfl rfl rfl) ?_
  refine al_y rfl rfl (y_assignV rfl rfl) ?_
  refine al_y rfl rfl (y_assignV rfl rfl) ?_
  refine al_nil ?_
  refine qt_normal ?_
  refine ac_seq ?_
  refine ac_region ?_
  refine al_y rfl rfl (y_callF (av := []) rfl trivial d61) ?_
  refine al_y rfl rfl (y_callF (av := [_, _, _, _]) rfl ⟨rfl, rfl, rfl, rfl, trivial⟩ d39) ?_
  refine al_y rfl rfl (y_moveP rfl rfl) ?_
  refine al_y rfl rfl (y_extract rfl rfl rfl) ?_
  refine al_y rfl rfl (y_extract rfl rfl rfl) ?_
  refine al_pair  rfl rfl rfl rfl rfl rfl rfl zv29 ty29 rfl (by rfl) (cE_agg rfl) rfl ?_
  refine al_y rfl rfl (y_assignV rfl rfl) ?_
  refine al_nil ?_
  refine qt_normal ?_
  refine ac_seq ?_
  refine ac_seq ?_
  refine ac_region ?_
  refine al_y rfl rfl (y_moveV rfl rfl) ?_
  refine al_y rfl rfl (y_neq rfl rfl rfl) ?_
  refine al_y rfl rfl (y_moveV rfl rfl) ?_
  refine al_maybe rfl rfl rfl (fun hg => y_moveV rfl rfl) ?_
  refine al_maybe rfl rfl rfl (fun hg => y_neq rfl rfl rfl) ?_
  refine al_y rfl rfl (y_or rfl rfl rfl rfl) ?_
  refine al_y rfl rfl (y_moveV rfl rfl) ?_
  refine al_maybe rfl rfl rfl (fun hg => y_moveV rfl rfl) ?_
  refine al_maybe rfl rfl rfl (fun hg => y_neq rfl rfl rfl) ?_
  refine al_y rfl rfl (y_or rfl rfl rfl rfl) ?_
  refine al_y rfl rfl (y_moveV rfl rfl) ?_
  refine al_maybe rfl rfl rfl (fun hg => y_moveV rfl rfl) ?_
  refine al_maybe rfl rfl rfl (fun hg => y_neq rfl rfl rfl) ?_
  refine al_y rfl rfl (y_or rfl rfl rfl rfl) ?_
  refine al_y rfl rfl (y_moveV rfl rfl) ?_
  refine al_maybe rfl rfl rfl (fun hg => y_moveV rfl rfl) ?_
  refine al_maybe rfl rfl rfl (fun hg => y_neq rfl rfl rfl) ?_
  refine al_y rfl rfl (y_or rfl rfl rfl rfl) ?_
  refine al_y rfl rfl (y_moveV rfl rfl) ?_
  refine al_maybe rfl rfl rfl (fun hg => y_moveV rfl rfl) ?_
  refine al_maybe rfl rfl rfl (fun hg => y_neq rfl rfl rfl) ?_
  refine al_y rfl rfl (y_or rfl rfl rfl rfl) ?_
  refine al_y rfl rfl (y_moveV rfl rfl) ?_
  refine al_maybe rfl rfl rfl (fun hg => y_moveV rfl rfl) ?_
  refine al_maybe rfl rfl rfl (fun hg => y_neq rfl rfl rfl) ?_
  refine al_y rfl rfl (y_or rfl rfl rfl rfl) ?_
  refine al_nil ?_
  refine qt_normal ?_
  refine ac_cond rfl (fun h0 => ?_) (fun h0 => ?_)
  · skip
    exfalso; simp at h0
  · skip
    refine ac_skip ?_
    refine qt_normal ?_
    refine ac_seq ?_
    refine ac_seq ?_
    refine ac_region ?_
    refine al_y rfl rfl (y_moveV rfl rfl) ?_
    refine al_y rfl rfl (y_bin (c := .bool false) rfl rfl rfl (fun w => by kernel_rfl) rfl) ?_
    refine al_y rfl rfl (y_moveV rfl rfl) ?_
    refine al_maybe rfl rfl rfl (fun hg => y_moveV rfl rfl) ?_
    refine al_maybe rfl rfl rfl (fun hg => y_neq rfl rfl rfl) ?_
    refine al_y rfl rfl (y_or rfl rfl rfl rfl) ?_
    refine al_y rfl rfl (y_moveV rfl rfl) ?_
    refine al_maybe rfl rfl rfl (fun hg => y_moveV rfl rfl) ?_
    refine al_maybe rfl rfl rfl (fun hg => y_neq rfl rfl rfl) ?_
    refine al_y rfl rfl (y_or rfl rfl rfl rfl) ?_
    refine al_y rfl rfl (y_moveV rfl rfl) ?_
    refine al_maybe rfl rfl rfl (fun hg => y_loadN rfl rfl ty29 (by exact Nat.le_of_ble_eq_true rfl)) ?_
    refine al_maybe rfl rfl rfl (fun hg => y_buildSlice (size := 1) (rows := [[_], [_], [_], [_], [_], [_], [_], [_], [_]]) rfl Tryz.underlying27 ti3 rfl (by decide) rfl (by decide) ⟨_, _, rfl, (cE_v rfl), ⟨_, _, rfl, (cE_v rfl), ⟨_, _, rfl, (cE_v rfl), ⟨_, _, rfl, (cE_v rfl), ⟨_, _, rfl, (cE_v rfl), ⟨_, _, rfl, (cE_v rfl), ⟨_, _, rfl, (cE_v rfl), ⟨_, _, rfl, (cE_v rfl), ⟨_, _, rfl, (cE_v rfl), rfl⟩⟩⟩⟩⟩⟩⟩⟩⟩ (by rfl) (by simp [ofV]) rfl (by simp)) ?_
    refine al_maybe rfl rfl rfl (fun hg => y_build (cs := [_, _]) rfl st29 rfl ⟨_, _, rfl, (cE_v rfl), ⟨_, _, rfl, (cE_sl rfl), rfl⟩⟩ (by rfl) (by simp [ofV])) ?_
    refine al_maybe rfl rfl rfl (fun hg => y_callF (av := [_, _]) rfl ⟨(rfl), (rfl), trivial⟩ d24s) ?_
    refine al_maybe rfl rfl rfl (fun hg => y_not rfl rfl) ?_
    refine al_y rfl rfl (y_or rfl rfl rfl rfl) ?_
    refine al_nil ?_
    refine qt_normal ?_
    refine ac_cond rfl (fun h1 => ?_) (fun h1 => ?_)
    · skip
      exfalso; simp at h1
    · skip
      refine ac_skip ?_
      refine qt_normal ?_
      refine ac_seq ?_
      refine ac_region ?_
      refine al_y rfl rfl (y_moveP rfl rfl) ?_
      refine al_y rfl rfl (y_build (cs := [_, _]) rfl st50 rfl ⟨_, _, rfl, (cE_v rfl), ⟨_, _, rfl, (cE_v rfl), rfl⟩⟩ (by rfl) (by simp [ofV])) ?_
      refine al_y rfl rfl (y_build (cs := [_, _]) rfl st50 rfl ⟨_, _, rfl, (cE_v rfl), ⟨_, _, rfl, (cE_v rfl), rfl⟩⟩ (by rfl) (by simp [ofV])) ?_
      refine al_y rfl rfl (y_build (cs := [_, _]) rfl st50 rfl ⟨_, _, rfl, (cE_v rfl), ⟨_, _, rfl, (cE_v rfl), rfl⟩⟩ (by rfl) (by simp [ofV])) ?_
      refine al_y rfl rfl (y_build (cs := [_, _]) rfl st50 rfl ⟨_, _, rfl, (cE_v rfl), ⟨_, _, rfl, (cE_v rfl), rfl⟩⟩ (by rfl) (by simp [ofV])) ?_
      refine al_y rfl rfl (y_build (cs := [_, _]) rfl st50 rfl ⟨_, _, rfl, (cE_v rfl), ⟨_, _, rfl, (cE_v rfl), rfl⟩⟩ (by rfl) (by simp [ofV])) ?_
      refine al_y rfl rfl (y_build (cs := [_, _]) rfl st50 rfl ⟨_, _, rfl, (cE_v rfl), ⟨_, _, rfl, (cE_v rfl), rfl⟩⟩ (by rfl) (by simp [ofV])) ?_
      refine al_y rfl rfl (y_build (cs := [_, _]) rfl st50 rfl ⟨_, _, rfl, (cE_v rfl), ⟨_, _, rfl, (cE_v rfl), rfl⟩⟩ (by rfl) (by simp [ofV])) ?_
      refine al_y rfl rfl (y_buildSlice (size := 2) (rows := [[_, _], [_, _], [_, _], [_, _], [_, _], [_, _], [_, _]]) rfl Tryz.underlying48 ti50 rfl (by decide) rfl (by decide) ⟨_, _, rfl, (cE_agg rfl), ⟨_, _, rfl, (cE_agg rfl), ⟨_, _, rfl, (cE_agg rfl), ⟨_, _, rfl, (cE_agg rfl), ⟨_, _, rfl, (cE_agg rfl), ⟨_, _, rfl, (cE_agg rfl), ⟨_, _, rfl, (cE_agg rfl), rfl⟩⟩⟩⟩⟩⟩⟩ (by rfl) (by simp [ofV]) rfl (by simp)) ?_
      refine al_y rfl rfl (y_buildSlice (size := 1) (rows := [[_]]) rfl Tryz.underlying37 ti48 rfl (by decide) rfl (by decide) ⟨_, _, rfl, (cE_sl rfl), rfl⟩ (by rfl) (by simp [ofV]) rfl (by simp)) ?_
      refine al_y rfl rfl (y_callF (av := [_, _]) rfl ⟨rfl, rfl, trivial⟩ (d30a)) ?_
      refine al_y rfl rfl (y_moveV rfl rfl) ?_
      refine al_maybe rfl rfl rfl (fun hg => y_moveP rfl rfl) ?_
      refine al_maybe rfl rfl rfl (fun hg => y_build (cs := [_, _]) rfl st50 rfl ⟨_, _, rfl, (cE_v rfl), ⟨_, _, rfl, (cE_v rfl), rfl⟩⟩ (by rfl) (by simp [ofV])) ?_
      refine al_maybe rfl rfl rfl (fun hg => y_build (cs := [_, _]) rfl st50 rfl ⟨_, _, rfl, (cE_v rfl), ⟨_, _, rfl, (cE_v rfl), rfl⟩⟩ (by rfl) (by simp [ofV])) ?_
      refine al_maybe rfl rfl rfl (fun hg => y_build (cs := [_, _]) rfl st50 rfl ⟨_, _, rfl, (cE_v rfl), ⟨_, _, rfl, (cE_v rfl), rfl⟩⟩ (by rfl) (by simp [ofV])) ?_
      refine al_maybe rfl rfl rfl (fun hg => y_build (cs := [_, _]) rfl st50 rfl ⟨_, _, rfl, (cE_v rfl), ⟨_, _, rfl, (cE_v rfl), rfl⟩⟩ (by rfl) (by simp [ofV])) ?_
      refine al_maybe rfl rfl rfl (fun hg => y_buildSlice (size := 2) (rows := [[_, _], [_, _], [_, _], [_, _]]) rfl Tryz.underlying48 ti50 rfl (by decide) rfl (by decide) ⟨_, _, rfl, (cE_agg rfl), ⟨_, _, rfl, (cE_agg rfl), ⟨_, _, rfl, (cE_agg rfl), ⟨_, _, rfl, (cE_agg rfl), rfl⟩⟩⟩⟩ (by rfl) (by simp [ofV]) rfl (by simp)) ?_
      refine al_maybe rfl rfl rfl (fun hg => y_buildSlice (size := 1) (rows := [[_]]) rfl Tryz.underlying37 ti48 rfl (by decide) rfl (by decide) ⟨_, _, rfl, (cE_sl rfl), rfl⟩ (by rfl) (by simp [ofV]) rfl (by simp)) ?_
      refine al_maybe rfl rfl rfl (fun hg => y_callF (av := [_, _]) rfl ⟨(rfl), (rfl), trivial⟩ (d30b)) ?_
      refine al_y rfl rfl (y_and rfl rfl rfl rfl) ?_
      refine al_y rfl rfl (y_assignV rfl rfl) ?_
      refine al_nil ?_
      refine qt_normal ?_
      refine ac_ret ?_
      exact ⟨.inr rfl, AVle.refl _⟩
end Go.Av
end
