/- ChartSheets: for every input the law returns true and leaves its arguments as they were; the program's variables are laid as its text lays them. -/
import Derived.Test.YtdjncbjfejdamaaGreatDoorFrame
import Derived.Test.YtdjncbjfejdamaaGreatDoorFrameL
import Derived.Test.YtdjncbjfejdamaaGreatDoorExG
import Derived.Test.YtdjncbjfejdamaaGreatDoorStD
set_option linter.unusedVariables false
set_option linter.unusedSimpArgs false
section
namespace Go.Proofs.YtdjncbjfejdamaaGreatDoor
open Go Go.ChangeShapes Go.WideShapes Go.ChangeAt Go.RowKit Go.Av Go.Bv
set_option maxRecDepth 100000
theorem sheets_all (xs : List AV) (h : ArgsAV Tryz.prog 8 Tryz.f17.params.toList xs) : ACall Tryz.prog GT 17 xs (.v (.bool true)) := by
  obtain ⟨x0, _, rfl, h0, rfl⟩ := h
  obtain ⟨a0, rfl⟩ := ar_fld h0
  exact f17 known a0
theorem sheets_facts : joinedFacts Tryz.prog 17 Tryz.f17 Rows.chartSheetsSpec Rows.chartSheetsRow = true :=
  and_t (and_t (and_t (and_t (and_t (and_t (and_t (and_t (and_t (and_t (and_t (and_t (and_t (and_t (and_t (and_t (and_t (and_t (and_t (and_t (and_t (and_t (and_t (and_t (and_t (and_t (and_t (and_t (and_t (and_t (and_t ((by kernel_rfl)) laidOut) t_maps) (by kernel_rfl)) (by kernel_rfl)) (by kernel_rfl)) t_stops) (by kernel_rfl)) t_knobs) (by kernel_rfl)) (by kernel_rfl)) (by kernel_rfl)) (by kernel_rfl)) (by kernel_rfl)) (by kernel_rfl)) (by kernel_rfl)) (by kernel_rfl)) (by kernel_rfl)) (by kernel_rfl)) (by kernel_rfl)) (by kernel_rfl)) (by kernel_rfl)) t_keys) (by kernel_rfl)) t_heard) t_enter) t_lifted) t_make) (by kernel_rfl)) (by kernel_rfl)) (by kernel_rfl)) (by kernel_rfl)
theorem sheets_name : Tryz.prog.funcNamed "isobar/isobarlaw03.ChartSheets" = some 17 := by kernel_rfl
theorem sheets_inst : Tryz.f17.isInstance Tryz.prog Rows.chartSheetsRow.origin Rows.chartSheetsRow.targs := of_decide_eq_true (by kernel_rfl)
theorem sheets_wrap : Tryz.f17.isWrapper Tryz.prog Rows.chartSheetsRow.wrapper Rows.chartSheetsRow.mainSum := by unfold Func.isWrapper; first | (rw [if_pos (by decide +kernel)]; kernel_rfl) | (rw [if_neg (by decide +kernel)]; exact ⟨rfl, rfl⟩)
theorem sheets_noInit : Tryz.prog.inits.idxOf? 17 = none := by kernel_rfl
theorem sheets_plain : (Tryz.f17.params.toList.all fun t => plainB Tryz.prog (8 + 1) t) = true := by kernel_rfl
theorem sheets_read : (Tryz.f17.params.toList.all fun t => Tryz.prog.readableRec t && decide (t < Tryz.prog.types.size)) = true := by kernel_rfl
theorem sheets_witness {H : Type} (enc : TypeId × Value → H) (os : Os) : ∃ (w : World) (tape : Tape) (i : Input), w.os = os ∧ (w.forCall tape i).Shaped Tryz.checked.prog ∧ i.vars = [] ∧ Input.okWide Tryz.checked.prog (w.forCall tape i) .any w.heap.size 17 i ∧
      ((Rows.chartSheetsSpec.pre enc Tryz.checked.prog Tryz.f17 [] false (w.forCall tape i).memory i.args ∧ laidMetH Tryz.prog laid5 (w.forCall tape i).memory) ∧ sizedMet enc Tryz.checked.prog Tryz.f17 (OpenSpec.ofChange Rows.chartSheetsSpec) false (w.forCall tape i).memory i.args) ∧ ({} : Assume).holds Tryz.checked.prog (lone (Frame.enter Tryz.checked.prog 17 i.args .normal) [] (w.forCall tape i)) :=
  ChangeSpec.witness_shaped (enc := enc) (C := Tryz.checked) (os := os) (X := fun w _ => laidMetH Tryz.prog laid5 w) false (World.laidAll Tryz.prog os laid5) #[.agg #[.int .i64 0, .slice none 0 0]] 8 (World.laidAll_os _ _ _) (shaped5 os _) (by kernel_rfl) (by kernel_rfl) (by kernel_rfl) (door_met5 os _)
theorem sheets_holds : Rows.ChartSheetsSaid :=
  OpenClaim.holds_of_wide 17 Tryz.f17 rfl rfl rfl rfl rfl rfl rfl ⟨rfl, rfl, rfl, rfl, rfl⟩ rfl rfl rfl rfl rfl sheets_name Tryz.func17 sheets_facts sheets_inst sheets_wrap
    (fun os started H enc _ => liftedL tab_of_laid5 os started H enc (s := Rows.chartSheetsSpec) (n := 8) Tryz.func17 sheets_noInit sheets_plain sheets_read rfl rfl
      (fun ds hd => match ds, hd with | [_], _ => rfl) sheets_all (sheets_witness enc os))
theorem sheets_wf : Rows.chartSheetsRow.wfByText (OpenSpec.ofChange Rows.chartSheetsSpec) = true := by kernel_rfl
theorem sheets_main : Tryz.pinned.checked.prog.mainIs = some (true, "2d17a4dc9e16d3a73f126c826b77bd7af92222a396f0142bc46a5dacda5c891f".toList) := by kernel_rfl
theorem sheets_noStand : (Tryz.f17.params.toList.all fun t => !Tryz.prog.wantsStandIn t) = true := by kernel_rfl
theorem sheets_goes : false = Rows.chartSheetsRow.goesBy Tryz.prog := by kernel_rfl
theorem sheets_card : Rows.ChartSheetsCardSaid :=
  Claim7.holds_tied_plain_at .later [] [.data, .data, .data, .data, .pinned] true (true, "2d17a4dc9e16d3a73f126c826b77bd7af92222a396f0142bc46a5dacda5c891f") true
    sheets_holds (fun _ h => by cases h) sheets_wf (fun _ h => by cases h) chartSheets_row_tie rfl ⟨rfl, rfl⟩ sheets_main rfl
    (fun f fn hf hfn => by
      obtain rfl : f = 17 := Option.some.inj (sheets_name.symm.trans hf) |>.symm
      obtain rfl : fn = Tryz.f17 := (Option.some.inj (Tryz.func17.symm.trans hfn)).symm
      refine ⟨looks_all, fun j t ht => ?_⟩
      have h3 := List.all_eq_true.1 sheets_noStand t (by rw [Array.mem_toList_iff]; exact Array.mem_of_getElem? ht)
      have h4 : Tryz.prog.wantsStandIn t = false := by simpa using h3
      exact h4)
    sheets_goes
#print axioms sheets_card
end Go.Proofs.YtdjncbjfejdamaaGreatDoor
end
