/- ChartBounds: for every input the law returns true and leaves its arguments as they were; the program's variables are laid as its text lays them. -/
import Derived.Test.YtdjncbjfejdamaaGreatDoorFrame
import Derived.Test.YtdjncbjfejdamaaGreatDoorExG
import Derived.Test.YtdjncbjfejdamaaGreatDoorChH
set_option linter.unusedVariables false
set_option linter.unusedSimpArgs false
section
namespace Go.Proofs.YtdjncbjfejdamaaGreatDoor
open Go Go.ChangeShapes Go.WideShapes Go.ChangeAt Go.RowKit Go.Av Go.Bv
set_option maxRecDepth 100000
theorem bounds_all (xs : List AV) (h : ArgsAV Tryz.prog 8 Tryz.f12.params.toList xs) : ACall Tryz.prog GT 12 xs (.v (.bool true)) := by
  obtain ⟨x0, _, rfl, h0, rfl⟩ := h
  obtain ⟨a0, rfl⟩ := ar_mp h0
  exact f12 known a0
theorem bounds_facts : joinedFacts Tryz.prog 12 Tryz.f12 Rows.chartBoundsSpec Rows.chartBoundsRow = true :=
  and_t (and_t (and_t (and_t (and_t (and_t (and_t (and_t (and_t (and_t (and_t (and_t (and_t (and_t (and_t (and_t (and_t (and_t (and_t (and_t (and_t (and_t (and_t (and_t (and_t (and_t (and_t (and_t (and_t (and_t (and_t ((by kernel_rfl)) laidOut) t_maps) (by kernel_rfl)) (by kernel_rfl)) (by kernel_rfl)) t_stops) (by kernel_rfl)) t_knobs) (by kernel_rfl)) (by kernel_rfl)) (by kernel_rfl)) (by kernel_rfl)) (by kernel_rfl)) (by kernel_rfl)) (by kernel_rfl)) (by kernel_rfl)) (by kernel_rfl)) (by kernel_rfl)) (by kernel_rfl)) (by kernel_rfl)) (by kernel_rfl)) t_keys) (by kernel_rfl)) t_heard) t_enter) t_lifted) t_make) (by kernel_rfl)) (by kernel_rfl)) (by kernel_rfl)) (by kernel_rfl)
theorem bounds_name : Tryz.prog.funcNamed "isobar/isobarlaw03.ChartBounds" = some 12 := by kernel_rfl
theorem bounds_inst : Tryz.f12.isInstance Tryz.prog Rows.chartBoundsRow.origin Rows.chartBoundsRow.targs := of_decide_eq_true (by kernel_rfl)
theorem bounds_wrap : Tryz.f12.isWrapper Tryz.prog Rows.chartBoundsRow.wrapper Rows.chartBoundsRow.mainSum := by unfold Func.isWrapper; first | (rw [if_pos (by decide +kernel)]; kernel_rfl) | (rw [if_neg (by decide +kernel)]; exact ⟨rfl, rfl⟩)
theorem bounds_noInit : Tryz.prog.inits.idxOf? 12 = none := by kernel_rfl
theorem bounds_plain : (Tryz.f12.params.toList.all fun t => plainB Tryz.prog (8 + 1) t) = true := by kernel_rfl
theorem bounds_read : (Tryz.f12.params.toList.all fun t => Tryz.prog.readableRec t && decide (t < Tryz.prog.types.size)) = true := by kernel_rfl
theorem bounds_witness {H : Type} (enc : TypeId × Value → H) (os : Os) : ∃ (w : World) (tape : Tape) (i : Input), w.os = os ∧ (w.forCall tape i).Shaped Tryz.checked.prog ∧ i.vars = [] ∧ Input.okWide Tryz.checked.prog (w.forCall tape i) .any w.heap.size 12 i ∧
      ((Rows.chartBoundsSpec.pre enc Tryz.checked.prog Tryz.f12 [] false (w.forCall tape i).memory i.args ∧ laidMetH Tryz.prog laid3 (w.forCall tape i).memory) ∧ sizedMet enc Tryz.checked.prog Tryz.f12 (OpenSpec.ofChange Rows.chartBoundsSpec) false (w.forCall tape i).memory i.args) ∧ ({} : Assume).holds Tryz.checked.prog (lone (Frame.enter Tryz.checked.prog 12 i.args .normal) [] (w.forCall tape i)) :=
  ChangeSpec.witness_shaped (enc := enc) (C := Tryz.checked) (os := os) (X := fun w _ => laidMetH Tryz.prog laid3 w) false (World.doorLaid Tryz.prog 400 os) #[.agg #[.int .i64 0, .int .i64 0, .int .i64 0, .slice none 0 0]] 8 rfl (World.shaped_of_RefB (by kernel_rfl) (by kernel_rfl)) (by kernel_rfl) (by kernel_rfl) (by kernel_rfl) (door_met os _)
theorem bounds_holds : Rows.ChartBoundsSaid :=
  OpenClaim.holds_of_wide 12 Tryz.f12 rfl rfl rfl rfl rfl rfl rfl ⟨rfl, rfl, rfl, rfl, rfl⟩ rfl rfl rfl rfl rfl bounds_name Tryz.func12 bounds_facts bounds_inst bounds_wrap
    (fun os started H enc _ => lifted os started H enc (s := Rows.chartBoundsSpec) (n := 8) Tryz.func12 bounds_noInit bounds_plain bounds_read rfl rfl
      (fun ds hd => match ds, hd with | [_], _ => rfl) bounds_all (bounds_witness enc os))
theorem bounds_wf : Rows.chartBoundsRow.wfByText (OpenSpec.ofChange Rows.chartBoundsSpec) = true := by kernel_rfl
theorem bounds_main : Tryz.pinned.checked.prog.mainIs = some (true, "2d17a4dc9e16d3a73f126c826b77bd7af92222a396f0142bc46a5dacda5c891f".toList) := by kernel_rfl
theorem bounds_noStand : (Tryz.f12.params.toList.all fun t => !Tryz.prog.wantsStandIn t) = true := by kernel_rfl
theorem bounds_goes : false = Rows.chartBoundsRow.goesBy Tryz.prog := by kernel_rfl
theorem bounds_card : Rows.ChartBoundsCardSaid :=
  Claim7.holds_tied_plain_at .later [] [.data, .data, .data] true (true, "2d17a4dc9e16d3a73f126c826b77bd7af92222a396f0142bc46a5dacda5c891f") true
    bounds_holds (fun _ h => by cases h) bounds_wf (fun _ h => by cases h) chartBounds_row_tie rfl ⟨rfl, rfl⟩ bounds_main rfl
    (fun f fn hf hfn => by
      obtain rfl : f = 12 := Option.some.inj (bounds_name.symm.trans hf) |>.symm
      obtain rfl : fn = Tryz.f12 := (Option.some.inj (Tryz.func12.symm.trans hfn)).symm
      refine ⟨looks_all, fun j t ht => ?_⟩
      have h3 := List.all_eq_true.1 bounds_noStand t (by rw [Array.mem_toList_iff]; exact Array.mem_of_getElem? ht)
      have h4 : Tryz.prog.wantsStandIn t = false := by simpa using h3
      exact h4)
    bounds_goes
#print axioms bounds_card
end Go.Proofs.YtdjncbjfejdamaaGreatDoor
end
