/- The document's rows. -/
import Derived.Test.YtaphehlgijlfeaaGreatDoorExA
import Derived.Test.YtaphehlgijlfeaaGreatDoorExB
import Derived.Test.YtaphehlgijlfeaaGreatDoorExC
import Derived.Test.YtaphehlgijlfeaaGreatDoorExD
import Derived.Test.YtaphehlgijlfeaaGreatDoorExE
import Derived.Test.YtaphehlgijlfeaaGreatDoorExF
import Derived.Test.YtaphehlgijlfeaaGreatDoorExG
import Derived.Test.YtaphehlgijlfeaaGreatDoorWiD
import Derived.KernelRfl
set_option linter.unusedVariables false
set_option linter.unusedSimpArgs false
section
namespace Go.Av
open Go.Proofs
set_option maxRecDepth 100000
set_option maxHeartbeats 1000000
set_option linter.unusedSimpArgs false
variable {G : Glob}
theorem ti34 : Tryz.prog.info? 34 = some Tryz.t34 := by kernel_rfl
theorem ti3 : Tryz.prog.info? 3 = some Tryz.t3 := by kernel_rfl
theorem st70 : structIs Tryz.prog 70 [(0, 1), (1, 1), (2, 1)] [.int .i64 0, .int .i64 0, .int .i64 0] := ⟨_, Tryz.underlying70, by kernel_rfl, by kernel_rfl⟩
theorem ti23 : Tryz.prog.info? 23 = some Tryz.t23 := by kernel_rfl

open Go.Bv in
theorem d28 : ACall Tryz.prog GT 28 [eIntss [[75310, 27030], [75810, 27030]], eIntss [[75310, 27030], [75810, 27030]]] (.v (.bool true)) := acall_data orcW_ok gT (n := 10000) (drt := drW) (by kernel_rfl)
open Go.Bv in
theorem d29a : ACall Tryz.prog GT 29 [eStrs [[55, 53, 63, 49, 48], [50, 55, 48, 51, 48]], eStrs [[55, 53, 63, 49, 48], [50, 55, 48, 51, 48]]] (.v (.bool true)) := acall_data orcW_ok gT (n := 10000) (drt := drW) (by kernel_rfl)
open Go.Bv in
theorem d29b : ACall Tryz.prog GT 29 [eStrs [[97, 98, 97, 102, 116], [57, 50, 56, 52, 48]], eStrs [[97, 98, 97, 102, 116], [57, 50, 56, 52, 48]]] (.v (.bool true)) := acall_data orcW_ok gT (n := 10000) (drt := drW) (by kernel_rfl)
open Go.Bv in
theorem d39a : ACall Tryz.prog GT 39 [eInts [1], eInts [1]] (.v (.bool true)) := acall_data orcW_ok gT (n := 10000) (drt := drW) (by kernel_rfl)
open Go.Bv in
theorem d39b : ACall Tryz.prog GT 39 [eInts [0, 2], eInts [0, 2]] (.v (.bool true)) := acall_data orcW_ok gT (n := 10000) (drt := drW) (by kernel_rfl)
open Go.Bv in
theorem d39c : ACall Tryz.prog GT 39 [eInts [0, 1], eInts [0, 1]] (.v (.bool true)) := acall_data orcW_ok gT (n := 10000) (drt := drW) (by kernel_rfl)

theorem known : KN GT := by
 refine acall_of Tryz.func23 rfl (by kernel_rfl) rfl ?_
 refine ac_seq ?_
 refine ac_region ?_
 refine al_y rfl rfl (y_assignV rfl rfl) ?_
 refine al_nil ?_
 refine qt_normal ?_
 refine ac_seq ?_
 refine ac_region ?_
 refine al_y rfl rfl (y_callF (av := []) rfl trivial d79) ?_
 refine al_y rfl rfl (y_callF (av := []) rfl trivial d80) ?_
 refine al_y rfl rfl (y_buildSlice (size := 1) (rows := [[_]]) rfl Tryz.underlying26 ti34 rfl (by decide) rfl (by decide) ⟨_, _, rfl, (cE_sl rfl), rfl⟩ (by rfl) (by simp [ofV]) rfl (by simp)) ?_
 refine al_y rfl rfl (y_callF (av := [_, _]) rfl ⟨rfl, rfl, trivial⟩ d24) ?_
 refine al_y rfl rfl (y_moveP rfl rfl) ?_
 refine al_y rfl rfl (y_extract rfl rfl rfl) ?_
 refine al_y rfl rfl (y_extract rfl rfl rfl) ?_
 refine al_y rfl rfl (y_assignP rfl rfl) ?_
 refine al_y rfl rfl (y_assignV rfl rfl) ?_
 refine al_nil ?_
 refine qt_normal ?_
 refine ac_seq ?_
 refine ac_region ?_
 refine al_y rfl rfl (y_callF (av := []) rfl trivial d79) ?_
 refine al_y rfl rfl (y_callF (av := []) rfl trivial d80) ?_
 refine al_y rfl rfl (y_buildSlice (size := 1) (rows := [[_]]) rfl Tryz.underlying26 ti34 rfl (by decide) rfl (by decide) ⟨_, _, rfl, (cE_sl rfl), rfl⟩ (by rfl) (by simp [ofV]) rfl (by simp)) ?_
 refine al_y rfl rfl (y_callF (av := [_, _]) rfl ⟨rfl, rfl, trivial⟩ d25) ?_
 refine al_y rfl rfl (y_moveP rfl rfl) ?_
 refine al_y rfl rfl (y_extract rfl rfl rfl) ?_
 refine al_y rfl rfl (y_extract rfl rfl rfl) ?_
 refine al_y rfl rfl (y_assignP rfl rfl) ?_
 refine al_y rfl rfl (y_assignV rfl rfl) ?_
 refine al_nil ?_
 refine qt_normal ?_
 refine ac_seq ?_
 refine ac_region ?_
 refine al_y rfl rfl (y_callF (av := []) rfl trivial d79) ?_
 refine al_y rfl rfl (y_callF (av := []) rfl trivial d80) ?_
 refine al_y rfl rfl (y_buildSlice (size := 1) (rows := [[_]]) rfl Tryz.underlying26 ti34 rfl (by decide) rfl (by decide) ⟨_, _, rfl, (cE_sl rfl), rfl⟩ (by rfl) (by simp [ofV]) rfl (by simp)) ?_
 refine al_y rfl rfl (y_callF (av := [_, _]) rfl ⟨rfl, rfl, trivial⟩ d43) ?_
 refine al_y rfl rfl (y_moveP rfl rfl) ?_
 refine al_y rfl rfl (y_extract rfl rfl rfl) ?_
 refine al_y rfl rfl (y_extract rfl rfl rfl) ?_
 refine al_y rfl rfl (y_extract rfl rfl rfl) ?_
 refine al_y rfl rfl (y_assignV rfl rfl) ?_
 refine al_y rfl rfl (y_assignV rfl rfl) ?_
 refine al_y rfl rfl (y_assignV rfl rfl) ?_
 refine al_nil ?_
 refine qt_normal ?_
 refine ac_seq ?_
 refine ac_region ?_
 refine al_y rfl rfl (y_callF (av := []) rfl trivial d79) ?_
 refine al_y rfl rfl (y_callF (av := []) rfl trivial d81) ?_
 refine al_y rfl rfl (y_callF (av := []) rfl trivial d82) ?_
 refine al_y rfl rfl (y_buildSlice (size := 1) (rows := [[_], [_]]) rfl Tryz.underlying26 ti34 rfl (by decide) rfl (by decide) ⟨_, _, rfl, (cE_sl rfl), ⟨_, _, rfl, (cE_sl rfl), rfl⟩⟩ (by rfl) (by simp [ofV]) rfl (by simp)) ?_
 refine al_y rfl rfl (y_callF (av := [_, _]) rfl ⟨rfl, rfl, trivial⟩ d37) ?_
 refine al_y rfl rfl (y_moveP rfl rfl) ?_
 refine al_y rfl rfl (y_extract rfl rfl rfl) ?_
 refine al_y rfl rfl (y_extract rfl rfl rfl) ?_
 refine al_y rfl rfl (y_assignP rfl rfl) ?_
 refine al_y rfl rfl (y_assignV rfl rfl) ?_
 refine al_nil ?_
 refine qt_normal ?_
 refine ac_seq ?_
 refine ac_region ?_
 refine al_y rfl rfl (y_callF (av := []) rfl trivial d83) ?_
 refine al_y rfl rfl (y_callF (av := [_, _, _]) rfl ⟨rfl, rfl, rfl, trivial⟩ d46) ?_
 refine al_y rfl rfl (y_moveP rfl rfl) ?_
 refine al_y rfl rfl (y_extract rfl rfl rfl) ?_
 refine al_y rfl rfl (y_extract rfl rfl rfl) ?_
 refine al_y rfl rfl (y_assignP rfl rfl) ?_
 refine al_y rfl rfl (y_assignV rfl rfl) ?_
 refine al_nil ?_
 refine qt_normal ?_
 refine ac_seq ?_
 refine ac_region ?_
 refine al_y rfl rfl (y_callF (av := []) rfl trivial d79) ?_
 refine al_y rfl rfl (y_callF (av := []) rfl trivial d83) ?_
 refine al_y rfl rfl (y_buildSlice (size := 1) (rows := [[_], [_]]) rfl Tryz.underlying23 ti3 rfl (by decide) rfl (by decide) ⟨_, _, rfl, (cE_v rfl), ⟨_, _, rfl, (cE_v rfl), rfl⟩⟩ (by rfl) (by simp [ofV]) rfl (by simp)) ?_
 refine al_y rfl rfl (y_callF (av := [_, _, _]) rfl ⟨rfl, rfl, rfl, trivial⟩ d70) ?_
 refine al_y rfl rfl (y_moveP rfl rfl) ?_
 refine al_y rfl rfl (y_extract rfl rfl rfl) ?_
 refine al_y rfl rfl (y_extract rfl rfl rfl) ?_
 refine al_y rfl rfl (y_assignP rfl rfl) ?_
 refine al_y rfl rfl (y_assignV rfl rfl) ?_
 refine al_nil ?_
 refine qt_normal ?_
 refine ac_seq ?_
 refine ac_region ?_
 refine al_y rfl rfl (y_build (cs := [_, _, _]) rfl st70 rfl ⟨_, _, rfl, (cE_v rfl), ⟨_, _, rfl, (cE_v rfl), ⟨_, _, rfl, (cE_v rfl), rfl⟩⟩⟩ (by rfl) (by simp [ofV])) ?_
 refine al_y rfl rfl (y_callF (av := [_, _, _]) rfl ⟨rfl, rfl, rfl, trivial⟩ d50) ?_
 refine al_y rfl rfl (y_moveP rfl rfl) ?_
 refine al_y rfl rfl (y_extract rfl rfl rfl) ?_
 refine al_y rfl rfl (y_extract rfl rfl rfl) ?_
 refine al_y rfl rfl (y_assignV rfl rfl) ?_
 refine al_y rfl rfl (y_assignV rfl rfl) ?_
 refine al_nil ?_
 refine qt_normal ?_
 refine ac_seq ?_
 refine ac_region ?_
 refine al_y rfl rfl (y_callF (av := []) rfl trivial d84) ?_
 refine al_y rfl rfl (y_callF (av := [_, _, _, _, _]) rfl ⟨rfl, rfl, rfl, rfl, rfl, trivial⟩ d51) ?_
 refine al_y rfl rfl (y_moveP rfl rfl) ?_
 refine al_y rfl rfl (y_extract rfl rfl rfl) ?_
 refine al_y rfl rfl (y_extract rfl rfl rfl) ?_
 refine al_y rfl rfl (y_extract rfl rfl rfl) ?_
 refine al_y rfl rfl (y_assignP rfl rfl) ?_
 refine al_y rfl rfl (y_assignV rfl rfl) ?_
 refine al_y rfl rfl (y_assignV rfl rfl) ?_
 refine al_nil ?_
 refine qt_normal ?_
 refine ac_seq ?_
 refine ac_region ?_
 refine al_y rfl rfl (y_callF (av := []) rfl trivial d81) ?_
 refine al_y rfl rfl (y_callF (av := [_, _]) rfl ⟨rfl, rfl, trivial⟩ d74) ?_
 refine al_y rfl rfl (y_moveP rfl rfl) ?_
 refine al_y rfl rfl (y_extract rfl rfl rfl) ?_
 refine al_y rfl rfl (y_extract rfl rfl rfl) ?_
 refine al_y rfl rfl (y_assignV rfl rfl) ?_
 refine al_y rfl rfl (y_assignV rfl rfl) ?_
 refine al_nil ?_
 refine qt_normal ?_
 refine ac_seq ?_
 refine ac_seq ?_
 refine ac_region ?_
 refine al_y rfl rfl (y_moveV rfl rfl) ?_
 refine al_y rfl rfl (y_neq rfl rfl rfl) ?_
 refine al_y rfl rfl (y_moveV rfl rfl) ?_
 refine al_maybe rfl rfl rfl (fun hg => y_moveV rfl rfl) ?_
 refine al_maybe rfl rfl rfl (fun hg => y_neq rfl rfl rfl) ?_
 refine al_y rfl rfl (y_or rfl rfl rfl rfl) ?_
 refine al_y rfl rfl (y_moveV rfl rfl) ?_
 refine al_maybe rfl rfl rfl (fun hg => y_moveV rfl rfl) ?_
 refine al_maybe rfl rfl rfl (fun hg => y_neq rfl rfl rfl) ?_
 refine al_y rfl rfl (y_or rfl rfl rfl rfl) ?_
 refine al_y rfl rfl (y_moveV rfl rfl) ?_
 refine al_maybe rfl rfl rfl (fun hg => y_moveV rfl rfl) ?_
 refine al_maybe rfl rfl rfl (fun hg => y_neq rfl rfl rfl) ?_
 refine al_y rfl rfl (y_or rfl rfl rfl rfl) ?_
 refine al_y rfl rfl (y_moveV rfl rfl) ?_
 refine al_maybe rfl rfl rfl (fun hg => y_moveV rfl rfl) ?_
 refine al_maybe rfl rfl rfl (fun hg => y_neq rfl rfl rfl) ?_
 refine al_y rfl rfl (y_or rfl rfl rfl rfl) ?_
 refine al_y rfl rfl (y_moveV rfl rfl) ?_
 refine al_maybe rfl rfl rfl (fun hg => y_moveV rfl rfl) ?_
 refine al_maybe rfl rfl rfl (fun hg => y_neq rfl rfl rfl) ?_
 refine al_y rfl rfl (y_or rfl rfl rfl rfl) ?_
 refine al_y rfl rfl (y_moveV rfl rfl) ?_
 refine al_maybe rfl rfl rfl (fun hg => y_moveV rfl rfl) ?_
 refine al_maybe rfl rfl rfl (fun hg => y_neq rfl rfl rfl) ?_
 refine al_y rfl rfl (y_or rfl rfl rfl rfl) ?_
 refine al_y rfl rfl (y_moveV rfl rfl) ?_
 refine al_maybe rfl rfl rfl (fun hg => y_moveV rfl rfl) ?_
 refine al_maybe rfl rfl rfl (fun hg => y_neq rfl rfl rfl) ?_
 refine al_y rfl rfl (y_or rfl rfl rfl rfl) ?_
 refine al_y rfl rfl (y_moveV rfl rfl) ?_
 refine al_maybe rfl rfl rfl (fun hg => y_moveV rfl rfl) ?_
 refine al_maybe rfl rfl rfl (fun hg => y_neq rfl rfl rfl) ?_
 refine al_y rfl rfl (y_or rfl rfl rfl rfl) ?_
 refine al_nil ?_
 refine qt_normal ?_
 refine ac_cond rfl (fun h0 => ?_) (fun h0 => ?_)
 ·
  exfalso; simp at h0
 ·
  refine ac_skip ?_
  refine qt_normal ?_
  refine ac_seq ?_
  refine ac_seq ?_
  refine ac_region ?_
  refine al_y rfl rfl (y_moveP rfl rfl) ?_
  refine al_y rfl rfl (y_buildSlice (size := 1) (rows := [[_], [_]]) rfl Tryz.underlying23 ti3 rfl (by decide) rfl (by decide) ⟨_, _, rfl, (cE_v rfl), ⟨_, _, rfl, (cE_v rfl), rfl⟩⟩ (by rfl) (by simp [ofV]) rfl (by simp)) ?_
  refine al_y rfl rfl (y_buildSlice (size := 1) (rows := [[_], [_]]) rfl Tryz.underlying23 ti3 rfl (by decide) rfl (by decide) ⟨_, _, rfl, (cE_v rfl), ⟨_, _, rfl, (cE_v rfl), rfl⟩⟩ (by rfl) (by simp [ofV]) rfl (by simp)) ?_
  refine al_y rfl rfl (y_buildSlice (size := 1) (rows := [[_], [_]]) rfl Tryz.underlying30 ti23 rfl (by decide) rfl (by decide) ⟨_, _, rfl, (cE_sl rfl), ⟨_, _, rfl, (cE_sl rfl), rfl⟩⟩ (by rfl) (by simp [ofV]) rfl (by simp)) ?_
  refine al_y rfl rfl (y_callF (av := [_, _]) rfl ⟨rfl, rfl, trivial⟩ d28) ?_
  refine al_y rfl rfl (y_not rfl rfl) ?_
  refine al_y rfl rfl (y_moveV rfl rfl) ?_
  refine al_maybe rfl rfl rfl (fun hg => y_moveP rfl rfl) ?_
  refine al_maybe rfl rfl rfl (fun hg => y_buildSlice (size := 1) (rows := [[_], [_]]) rfl Tryz.underlying34 ti9 rfl (by decide) rfl (by decide) ⟨_, _, rfl, (cE_v rfl), ⟨_, _, rfl, (cE_v rfl), rfl⟩⟩ (by rfl) (by simp [ofV]) rfl (by simp)) ?_
  refine al_maybe rfl rfl rfl (fun hg => y_callF (av := [_, _]) rfl ⟨(rfl), (rfl), trivial⟩ (d29a)) ?_
  refine al_maybe rfl rfl rfl (fun hg => y_not rfl rfl) ?_
  refine al_y rfl rfl (y_or rfl rfl rfl rfl) ?_
  refine al_y rfl rfl (y_moveV rfl rfl) ?_
  refine al_maybe rfl rfl rfl (fun hg => y_moveV rfl rfl) ?_
  refine al_maybe rfl rfl rfl (fun hg => y_neq rfl rfl rfl) ?_
  refine al_y rfl rfl (y_or rfl rfl rfl rfl) ?_
  refine al_y rfl rfl (y_moveV rfl rfl) ?_
  refine al_maybe rfl rfl rfl (fun hg => y_moveV rfl rfl) ?_
  refine al_maybe rfl rfl rfl (fun hg => y_neq rfl rfl rfl) ?_
  refine al_y rfl rfl (y_or rfl rfl rfl rfl) ?_
  refine al_y rfl rfl (y_moveV rfl rfl) ?_
  refine al_maybe rfl rfl rfl (fun hg => y_moveP rfl rfl) ?_
  refine al_maybe rfl rfl rfl (fun hg => y_buildSlice (size := 1) (rows := [[_]]) rfl Tryz.underlying23 ti3 rfl (by decide) rfl (by decide) ⟨_, _, rfl, (cE_v rfl), rfl⟩ (by rfl) (by simp [ofV]) rfl (by simp)) ?_
  refine al_maybe rfl rfl rfl (fun hg => y_callF (av := [_, _]) rfl ⟨(rfl), (rfl), trivial⟩ (d39a)) ?_
  refine al_maybe rfl rfl rfl (fun hg => y_not rfl rfl) ?_
  refine al_y rfl rfl (y_or rfl rfl rfl rfl) ?_
  refine al_nil ?_
  refine qt_normal ?_
  refine ac_cond rfl (fun h1 => ?_) (fun h1 => ?_)
  ·
   exfalso; simp at h1
  ·
   refine ac_skip ?_
   refine qt_normal ?_
   refine ac_seq ?_
   refine ac_region ?_
   refine al_y rfl rfl (y_moveP rfl rfl) ?_
   refine al_y rfl rfl (y_buildSlice (size := 1) (rows := [[_], [_]]) rfl Tryz.underlying23 ti3 rfl (by decide) rfl (by decide) ⟨_, _, rfl, (cE_v rfl), ⟨_, _, rfl, (cE_v rfl), rfl⟩⟩ (by rfl) (by simp [ofV]) rfl (by simp)) ?_
   refine al_y rfl rfl (y_callF (av := [_, _]) rfl ⟨rfl, rfl, trivial⟩ (d39b)) ?_
   refine al_y rfl rfl (y_moveV rfl rfl) ?_
   refine al_maybe rfl rfl rfl (fun hg => y_moveP rfl rfl) ?_
   refine al_maybe rfl rfl rfl (fun hg => y_buildSlice (size := 1) (rows := [[_], [_]]) rfl Tryz.underlying34 ti9 rfl (by decide) rfl (by decide) ⟨_, _, rfl, (cE_v rfl), ⟨_, _, rfl, (cE_v rfl), rfl⟩⟩ (by rfl) (by simp [ofV]) rfl (by simp)) ?_
   refine al_maybe rfl rfl rfl (fun hg => y_callF (av := [_, _]) rfl ⟨(rfl), (rfl), trivial⟩ (d29b)) ?_
   refine al_y rfl rfl (y_and rfl rfl rfl rfl) ?_
   refine al_y rfl rfl (y_moveV rfl rfl) ?_
   refine al_maybe rfl rfl rfl (fun hg => y_moveV rfl rfl) ?_
   refine al_maybe rfl rfl rfl (fun hg => y_eql rfl rfl rfl) ?_
   refine al_y rfl rfl (y_and rfl rfl rfl rfl) ?_
   refine al_y rfl rfl (y_moveV rfl rfl) ?_
   refine al_maybe rfl rfl rfl (fun hg => y_moveP rfl rfl) ?_
   refine al_maybe rfl rfl rfl (fun hg => y_buildSlice (size := 1) (rows := [[_], [_]]) rfl Tryz.underlying23 ti3 rfl (by decide) rfl (by decide) ⟨_, _, rfl, (cE_v rfl), ⟨_, _, rfl, (cE_v rfl), rfl⟩⟩ (by rfl) (by simp [ofV]) rfl (by simp)) ?_
   refine al_maybe rfl rfl rfl (fun hg => y_callF (av := [_, _]) rfl ⟨(rfl), (rfl), trivial⟩ (d39c)) ?_
   refine al_y rfl rfl (y_and rfl rfl rfl rfl) ?_
   refine al_y rfl rfl (y_moveV rfl rfl) ?_
   refine al_maybe rfl rfl rfl (fun hg => y_moveV rfl rfl) ?_
   refine al_maybe rfl rfl rfl (fun hg => y_eql rfl rfl rfl) ?_
   refine al_y rfl rfl (y_and rfl rfl rfl rfl) ?_
   refine al_y rfl rfl (y_moveV rfl rfl) ?_
   refine al_maybe rfl rfl rfl (fun hg => y_moveV rfl rfl) ?_
   refine al_maybe rfl rfl rfl (fun hg => y_eqlS rfl rfl rfl) ?_
   refine al_y rfl rfl (y_and rfl rfl rfl rfl) ?_
   refine al_y rfl rfl (y_assignV rfl rfl) ?_
   refine al_nil ?_
   refine qt_normal ?_
   refine ac_ret ?_
   exact ⟨.inr rfl, AVle.refl _⟩
end Go.Av
end
