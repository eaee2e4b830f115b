/- ChartFits: for every input the law returns true and leaves its arguments as they were; the program's variables are laid as its text lays them. -/
import Derived.Test.YtdjncbjfejdamaaGreatDoorFrame
import Derived.Test.YtdjncbjfejdamaaGreatDoorExG
import Derived.Test.YtdjncbjfejdamaaGreatDoorChN
set_option linter.unusedVariables false
set_option linter.unusedSimpArgs false
section
namespace Go.Proofs.YtdjncbjfejdamaaGreatDoor
open Go Go.ChangeShapes Go.WideShapes Go.ChangeAt Go.RowKit Go.Av Go.Bv
set_option maxRecDepth 100000
theorem fits_all (xs : List AV) (h : ArgsAV Tryz.prog 8 Tryz.f13.params.toList xs) : ACall Tryz.prog GT 13 xs (.v (.bool true)) := by
  obtain ⟨x0, _, rfl, h0, g0⟩ := h
  obtain ⟨x1, _, rfl, h1, rfl⟩ := g0
  obtain ⟨a0, rfl⟩ := ar_mp h0
  obtain ⟨a1, rfl⟩ := ar_fld h1
  exact f13 known a0 a1
theorem fits_facts : joinedFacts Tryz.prog 13 Tryz.f13 Rows.chartFitsSpec Rows.chartFitsRow = true :=
  and_t (and_t (and_t (and_t (and_t (and_t (and_t (and_t (and_t (and_t (and_t (and_t (and_t (and_t (and_t (and_t (and_t (and_t (and_t (and_t (and_t (and_t (and_t (and_t (and_t (and_t (and_t (and_t (and_t (and_t (and_t ((by kernel_rfl)) laidOut) t_maps) (by kernel_rfl)) (by kernel_rfl)) (by kernel_rfl)) t_stops) (by kernel_rfl)) t_knobs) (by kernel_rfl)) (by kernel_rfl)) (by kernel_rfl)) (by kernel_rfl)) (by kernel_rfl)) (by kernel_rfl)) (by kernel_rfl)) (by kernel_rfl)) (by kernel_rfl)) (by kernel_rfl)) (by kernel_rfl)) (by kernel_rfl)) (by kernel_rfl)) t_keys) (by kernel_rfl)) t_heard) t_enter) t_lifted) t_make) (by kernel_rfl)) (by kernel_rfl)) (by kernel_rfl)) (by kernel_rfl)
theorem fits_name : Tryz.prog.funcNamed "isobar/isobarlaw03.ChartFits" = some 13 := by kernel_rfl
theorem fits_inst : Tryz.f13.isInstance Tryz.prog Rows.chartFitsRow.origin Rows.chartFitsRow.targs := of_decide_eq_true (by kernel_rfl)
theorem fits_wrap : Tryz.f13.isWrapper Tryz.prog Rows.chartFitsRow.wrapper Rows.chartFitsRow.mainSum := by unfold Func.isWrapper; first | (rw [if_pos (by decide +kernel)]; kernel_rfl) | (rw [if_neg (by decide +kernel)]; exact ⟨rfl, rfl⟩)
theorem fits_noInit : Tryz.prog.inits.idxOf? 13 = none := by kernel_rfl
theorem fits_plain : (Tryz.f13.params.toList.all fun t => plainB Tryz.prog (8 + 1) t) = true := by kernel_rfl
theorem fits_read : (Tryz.f13.params.toList.all fun t => Tryz.prog.readableRec t && decide (t < Tryz.prog.types.size)) = true := by kernel_rfl
theorem fits_witness {H : Type} (enc : TypeId × Value → H) (os : Os) : ∃ (w : World) (tape : Tape) (i : Input), w.os = os ∧ (w.forCall tape i).Shaped Tryz.checked.prog ∧ i.vars = [] ∧ Input.okWide Tryz.checked.prog (w.forCall tape i) .any w.heap.size 13 i ∧
      ((Rows.chartFitsSpec.pre enc Tryz.checked.prog Tryz.f13 [] false (w.forCall tape i).memory i.args ∧ laidMetH Tryz.prog laid3 (w.forCall tape i).memory) ∧ sizedMet enc Tryz.checked.prog Tryz.f13 (OpenSpec.ofChange Rows.chartFitsSpec) false (w.forCall tape i).memory i.args) ∧ ({} : Assume).holds Tryz.checked.prog (lone (Frame.enter Tryz.checked.prog 13 i.args .normal) [] (w.forCall tape i)) :=
  ChangeSpec.witness_shaped (enc := enc) (C := Tryz.checked) (os := os) (X := fun w _ => laidMetH Tryz.prog laid3 w) false (World.doorLaid Tryz.prog 400 os) #[.agg #[.int .i64 0, .int .i64 0, .int .i64 0, .slice none 0 0], .agg #[.int .i64 0, .slice none 0 0]] 8 rfl (World.shaped_of_RefB (by kernel_rfl) (by kernel_rfl)) (by kernel_rfl) (by kernel_rfl) (by kernel_rfl) (door_met os _)
theorem fits_holds : Rows.ChartFitsSaid :=
  OpenClaim.holds_of_wide 13 Tryz.f13 rfl rfl rfl rfl rfl rfl rfl ⟨rfl, rfl, rfl, rfl, rfl⟩ rfl rfl rfl rfl rfl fits_name Tryz.func13 fits_facts fits_inst fits_wrap
    (fun os started H enc _ => lifted os started H enc (s := Rows.chartFitsSpec) (n := 8) Tryz.func13 fits_noInit fits_plain fits_read rfl rfl
      (fun ds hd => match ds, hd with | [_, _], _ => rfl) fits_all (fits_witness enc os))
theorem fits_wf : Rows.chartFitsRow.wfByText (OpenSpec.ofChange Rows.chartFitsSpec) = true := by kernel_rfl
theorem fits_main : Tryz.pinned.checked.prog.mainIs = some (true, "2d17a4dc9e16d3a73f126c826b77bd7af92222a396f0142bc46a5dacda5c891f".toList) := by kernel_rfl
theorem fits_noStand : (Tryz.f13.params.toList.all fun t => !Tryz.prog.wantsStandIn t) = true := by kernel_rfl
theorem fits_goes : false = Rows.chartFitsRow.goesBy Tryz.prog := by kernel_rfl
theorem fits_card : Rows.ChartFitsCardSaid :=
  Claim7.holds_tied_plain_at .later [] [.data, .data, .data] true (true, "2d17a4dc9e16d3a73f126c826b77bd7af92222a396f0142bc46a5dacda5c891f") true
    fits_holds (fun _ h => by cases h) fits_wf (fun _ h => by cases h) chartFits_row_tie rfl ⟨rfl, rfl⟩ fits_main rfl
    (fun f fn hf hfn => by
      obtain rfl : f = 13 := Option.some.inj (fits_name.symm.trans hf) |>.symm
      obtain rfl : fn = Tryz.f13 := (Option.some.inj (Tryz.func13.symm.trans hfn)).symm
      refine ⟨looks_all, fun j t ht => ?_⟩
      have h3 := List.all_eq_true.1 fits_noStand t (by rw [Array.mem_toList_iff]; exact Array.mem_of_getElem? ht)
      have h4 : Tryz.prog.wantsStandIn t = false := by simpa using h3
      exact h4)
    fits_goes
#print axioms fits_card
end Go.Proofs.YtdjncbjfejdamaaGreatDoor
end
