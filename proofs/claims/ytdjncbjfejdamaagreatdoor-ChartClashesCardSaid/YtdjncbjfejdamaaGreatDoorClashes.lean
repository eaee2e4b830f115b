/- ChartClashes: for every input the law returns true and leaves its arguments as they were; the program's variables are laid as its text lays them. -/
import Derived.Test.YtdjncbjfejdamaaGreatDoorFrame
import Derived.Test.YtdjncbjfejdamaaGreatDoorExG
import Derived.Test.YtdjncbjfejdamaaGreatDoorChF
set_option linter.unusedVariables false
set_option linter.unusedSimpArgs false
section
namespace Go.Proofs.YtdjncbjfejdamaaGreatDoor
open Go Go.ChangeShapes Go.WideShapes Go.ChangeAt Go.RowKit Go.Av Go.Bv
set_option maxRecDepth 100000
theorem clashes_all (xs : List AV) (h : ArgsAV Tryz.prog 8 Tryz.f9.params.toList xs) : ACall Tryz.prog GT 9 xs (.v (.bool true)) := by
  obtain ⟨x0, _, rfl, h0, rfl⟩ := h
  obtain ⟨a0, rfl⟩ := ar_mp h0
  exact f9 known a0
theorem clashes_facts : joinedFacts Tryz.prog 9 Tryz.f9 Rows.chartClashesSpec Rows.chartClashesRow = true :=
  and_t (and_t (and_t (and_t (and_t (and_t (and_t (and_t (and_t (and_t (and_t (and_t (and_t (and_t (and_t (and_t (and_t (and_t (and_t (and_t (and_t (and_t (and_t (and_t (and_t (and_t (and_t (and_t (and_t (and_t (and_t ((by kernel_rfl)) laidOut) t_maps) (by kernel_rfl)) (by kernel_rfl)) (by kernel_rfl)) t_stops) (by kernel_rfl)) t_knobs) (by kernel_rfl)) (by kernel_rfl)) (by kernel_rfl)) (by kernel_rfl)) (by kernel_rfl)) (by kernel_rfl)) (by kernel_rfl)) (by kernel_rfl)) (by kernel_rfl)) (by kernel_rfl)) (by kernel_rfl)) (by kernel_rfl)) (by kernel_rfl)) t_keys) (by kernel_rfl)) t_heard) t_enter) t_lifted) t_make) (by kernel_rfl)) (by kernel_rfl)) (by kernel_rfl)) (by kernel_rfl)
theorem clashes_name : Tryz.prog.funcNamed "isobar/isobarlaw03.ChartClashes" = some 9 := by kernel_rfl
theorem clashes_inst : Tryz.f9.isInstance Tryz.prog Rows.chartClashesRow.origin Rows.chartClashesRow.targs := of_decide_eq_true (by kernel_rfl)
theorem clashes_wrap : Tryz.f9.isWrapper Tryz.prog Rows.chartClashesRow.wrapper Rows.chartClashesRow.mainSum := by unfold Func.isWrapper; first | (rw [if_pos (by decide +kernel)]; kernel_rfl) | (rw [if_neg (by decide +kernel)]; exact ⟨rfl, rfl⟩)
theorem clashes_noInit : Tryz.prog.inits.idxOf? 9 = none := by kernel_rfl
theorem clashes_plain : (Tryz.f9.params.toList.all fun t => plainB Tryz.prog (8 + 1) t) = true := by kernel_rfl
theorem clashes_read : (Tryz.f9.params.toList.all fun t => Tryz.prog.readableRec t && decide (t < Tryz.prog.types.size)) = true := by kernel_rfl
theorem clashes_witness {H : Type} (enc : TypeId × Value → H) (os : Os) : ∃ (w : World) (tape : Tape) (i : Input), w.os = os ∧ (w.forCall tape i).Shaped Tryz.checked.prog ∧ i.vars = [] ∧ Input.okWide Tryz.checked.prog (w.forCall tape i) .any w.heap.size 9 i ∧
      ((Rows.chartClashesSpec.pre enc Tryz.checked.prog Tryz.f9 [] false (w.forCall tape i).memory i.args ∧ laidMetH Tryz.prog laid3 (w.forCall tape i).memory) ∧ sizedMet enc Tryz.checked.prog Tryz.f9 (OpenSpec.ofChange Rows.chartClashesSpec) false (w.forCall tape i).memory i.args) ∧ ({} : Assume).holds Tryz.checked.prog (lone (Frame.enter Tryz.checked.prog 9 i.args .normal) [] (w.forCall tape i)) :=
  ChangeSpec.witness_shaped (enc := enc) (C := Tryz.checked) (os := os) (X := fun w _ => laidMetH Tryz.prog laid3 w) false (World.doorLaid Tryz.prog 400 os) #[.agg #[.int .i64 0, .int .i64 0, .int .i64 0, .slice none 0 0]] 8 rfl (World.shaped_of_RefB (by kernel_rfl) (by kernel_rfl)) (by kernel_rfl) (by kernel_rfl) (by kernel_rfl) (door_met os _)
theorem clashes_holds : Rows.ChartClashesSaid :=
  OpenClaim.holds_of_wide 9 Tryz.f9 rfl rfl rfl rfl rfl rfl rfl ⟨rfl, rfl, rfl, rfl, rfl⟩ rfl rfl rfl rfl rfl clashes_name Tryz.func9 clashes_facts clashes_inst clashes_wrap
    (fun os started H enc _ => lifted os started H enc (s := Rows.chartClashesSpec) (n := 8) Tryz.func9 clashes_noInit clashes_plain clashes_read rfl rfl
      (fun ds hd => match ds, hd with | [_], _ => rfl) clashes_all (clashes_witness enc os))
theorem clashes_wf : Rows.chartClashesRow.wfByText (OpenSpec.ofChange Rows.chartClashesSpec) = true := by kernel_rfl
theorem clashes_main : Tryz.pinned.checked.prog.mainIs = some (true, "2d17a4dc9e16d3a73f126c826b77bd7af92222a396f0142bc46a5dacda5c891f".toList) := by kernel_rfl
theorem clashes_noStand : (Tryz.f9.params.toList.all fun t => !Tryz.prog.wantsStandIn t) = true := by kernel_rfl
theorem clashes_goes : false = Rows.chartClashesRow.goesBy Tryz.prog := by kernel_rfl
theorem clashes_card : Rows.ChartClashesCardSaid :=
  Claim7.holds_tied_plain_at .later [] [.data, .data, .data] true (true, "2d17a4dc9e16d3a73f126c826b77bd7af92222a396f0142bc46a5dacda5c891f") true
    clashes_holds (fun _ h => by cases h) clashes_wf (fun _ h => by cases h) chartClashes_row_tie rfl ⟨rfl, rfl⟩ clashes_main rfl
    (fun f fn hf hfn => by
      obtain rfl : f = 9 := Option.some.inj (clashes_name.symm.trans hf) |>.symm
      obtain rfl : fn = Tryz.f9 := (Option.some.inj (Tryz.func9.symm.trans hfn)).symm
      refine ⟨looks_all, fun j t ht => ?_⟩
      have h3 := List.all_eq_true.1 clashes_noStand t (by rw [Array.mem_toList_iff]; exact Array.mem_of_getElem? ht)
      have h4 : Tryz.prog.wantsStandIn t = false := by simpa using h3
      exact h4)
    clashes_goes
#print axioms clashes_card
end Go.Proofs.YtdjncbjfejdamaaGreatDoor
end
