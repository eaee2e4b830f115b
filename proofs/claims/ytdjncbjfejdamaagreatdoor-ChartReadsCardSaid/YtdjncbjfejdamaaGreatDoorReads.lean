/- ChartReads: for every input the law returns true and leaves its arguments as they were; the program's variables are laid as its text lays them. -/
import Derived.Test.YtdjncbjfejdamaaGreatDoorFrame
import Derived.Test.YtdjncbjfejdamaaGreatDoorFrameL
import Derived.Test.YtdjncbjfejdamaaGreatDoorFrameS
import Derived.Test.YtdjncbjfejdamaaGreatDoorExG
import Derived.Test.YtdjncbjfejdamaaGreatDoorStF
set_option linter.unusedVariables false
set_option linter.unusedSimpArgs false
section
namespace Go.Proofs.YtdjncbjfejdamaaGreatDoor
open Go Go.ChangeShapes Go.WideShapes Go.ChangeAt Go.RowKit Go.Av Go.Bv
set_option maxRecDepth 100000
theorem reads_all (xs : List AV) (h : ArgsAV Tryz.prog 8 Tryz.f18.params.toList xs) : ACall Tryz.prog GT 18 xs (.v (.bool true)) := by
  obtain ⟨x0, _, rfl, h0, rfl⟩ := h
  obtain ⟨a0, rfl⟩ := ar_str h0
  exact f18 known a0
theorem reads_facts : joinedFacts Tryz.prog 18 Tryz.f18 Rows.chartReadsSpec Rows.chartReadsRow = true :=
  and_t (and_t (and_t (and_t (and_t (and_t (and_t (and_t (and_t (and_t (and_t (and_t (and_t (and_t (and_t (and_t (and_t (and_t (and_t (and_t (and_t (and_t (and_t (and_t (and_t (and_t (and_t (and_t (and_t (and_t (and_t ((by kernel_rfl)) laidOut) t_maps) (by kernel_rfl)) (by kernel_rfl)) (by kernel_rfl)) t_stops) (by kernel_rfl)) t_knobs) (by kernel_rfl)) (by kernel_rfl)) (by kernel_rfl)) (by kernel_rfl)) (by kernel_rfl)) (by kernel_rfl)) (by kernel_rfl)) (by kernel_rfl)) (by kernel_rfl)) (by kernel_rfl)) (by kernel_rfl)) (by kernel_rfl)) (by kernel_rfl)) t_keys) (by kernel_rfl)) t_heard) t_enter) t_lifted) t_make) (by kernel_rfl)) (by kernel_rfl)) (by kernel_rfl)) (by kernel_rfl)
theorem reads_name : Tryz.prog.funcNamed "isobar/isobarlaw03.ChartReads" = some 18 := by kernel_rfl
theorem reads_inst : Tryz.f18.isInstance Tryz.prog Rows.chartReadsRow.origin Rows.chartReadsRow.targs := of_decide_eq_true (by kernel_rfl)
theorem reads_wrap : Tryz.f18.isWrapper Tryz.prog Rows.chartReadsRow.wrapper Rows.chartReadsRow.mainSum := by unfold Func.isWrapper; first | (rw [if_pos (by decide +kernel)]; kernel_rfl) | (rw [if_neg (by decide +kernel)]; exact ⟨rfl, rfl⟩)
theorem reads_noInit : Tryz.prog.inits.idxOf? 18 = none := by kernel_rfl
theorem reads_plain : (Tryz.f18.params.toList.all fun t => plainB Tryz.prog (8 + 1) t) = true := by kernel_rfl
theorem reads_read : (Tryz.f18.params.toList.all fun t => Tryz.prog.readableRec t && decide (t < Tryz.prog.types.size)) = true := by kernel_rfl
theorem reads_witness {H : Type} (enc : TypeId × Value → H) (os : Os) : ∃ (w : World) (tape : Tape) (i : Input), w.os = os ∧ (w.forCall tape i).Shaped Tryz.checked.prog ∧ i.vars = [] ∧ Input.okWide Tryz.checked.prog (w.forCall tape i) .any w.heap.size 18 i ∧
      ((Rows.chartReadsSpec.pre enc Tryz.checked.prog Tryz.f18 [] false (w.forCall tape i).memory i.args ∧ laidMetH Tryz.prog laid5 (w.forCall tape i).memory) ∧ sizedMet enc Tryz.checked.prog Tryz.f18 (OpenSpec.ofChange Rows.chartReadsSpec) false (w.forCall tape i).memory i.args) ∧ ({} : Assume).holds Tryz.checked.prog (lone (Frame.enter Tryz.checked.prog 18 i.args .normal) [] (w.forCall tape i)) :=
  ChangeSpec.witness_shaped (enc := enc) (C := Tryz.checked) (os := os) (X := fun w _ => laidMetH Tryz.prog laid5 w) false (World.laidAll Tryz.prog os laid5) #[.string ByteArray.empty] 8 (World.laidAll_os _ _ _) (shaped5 os _) (by kernel_rfl) (by kernel_rfl) (by kernel_rfl) (door_met5 os _)
theorem reads_holds : Rows.ChartReadsSaid :=
  OpenClaim.holds_of_wide 18 Tryz.f18 rfl rfl rfl rfl rfl rfl rfl ⟨rfl, rfl, rfl, rfl, rfl⟩ rfl rfl rfl rfl rfl reads_name Tryz.func18 reads_facts reads_inst reads_wrap
    (fun os started H enc _ => liftedL tab_of_laid5 os started H enc (s := Rows.chartReadsSpec) (n := 8) Tryz.func18 reads_noInit reads_plain reads_read rfl rfl
      (fun ds hd => match ds, hd with | [_], _ => rfl) reads_all (reads_witness enc os))
theorem reads_wf : Rows.chartReadsRow.wfByText (OpenSpec.ofChange Rows.chartReadsSpec) = true := by kernel_rfl
theorem reads_main : Tryz.pinned.checked.prog.mainIs = some (true, "2d17a4dc9e16d3a73f126c826b77bd7af92222a396f0142bc46a5dacda5c891f".toList) := by kernel_rfl
theorem reads_noStand : (Tryz.f18.params.toList.all fun t => !Tryz.prog.wantsStandIn t) = true := by kernel_rfl
theorem reads_goes : false = Rows.chartReadsRow.goesBy Tryz.prog := by kernel_rfl
theorem reads_card : Rows.ChartReadsCardSaid :=
  Claim7.holds_tied_plain_at .later [] [.data, .data, .data, .data, .pinned] true (true, "2d17a4dc9e16d3a73f126c826b77bd7af92222a396f0142bc46a5dacda5c891f") true
    reads_holds (fun _ h => by cases h) reads_wf (fun _ h => by cases h) chartReads_row_tie rfl ⟨rfl, rfl⟩ reads_main rfl
    (fun f fn hf hfn => by
      obtain rfl : f = 18 := Option.some.inj (reads_name.symm.trans hf) |>.symm
      obtain rfl : fn = Tryz.f18 := (Option.some.inj (Tryz.func18.symm.trans hfn)).symm
      refine ⟨looks_all, fun j t ht => ?_⟩
      have h3 := List.all_eq_true.1 reads_noStand t (by rw [Array.mem_toList_iff]; exact Array.mem_of_getElem? ht)
      have h4 : Tryz.prog.wantsStandIn t = false := by simpa using h3
      exact h4)
    reads_goes
#print axioms reads_card
end Go.Proofs.YtdjncbjfejdamaaGreatDoor
end
