/- ChartTrue: for every input the law returns true and leaves its arguments as they were; the program's variables are laid as its text lays them. -/
import Derived.Test.YtdjncbjfejdamaaGreatDoorFrame
import Derived.Test.YtdjncbjfejdamaaGreatDoorExG
import Derived.Test.YtdjncbjfejdamaaGreatDoorChO
set_option linter.unusedVariables false
set_option linter.unusedSimpArgs false
section
namespace Go.Proofs.YtdjncbjfejdamaaGreatDoor
open Go Go.ChangeShapes Go.WideShapes Go.ChangeAt Go.RowKit Go.Av Go.Bv
set_option maxRecDepth 100000
theorem true_all (xs : List AV) (h : ArgsAV Tryz.prog 8 Tryz.f16.params.toList xs) : ACall Tryz.prog GT 16 xs (.v (.bool true)) := by
  obtain ⟨x0, _, rfl, h0, g0⟩ := h
  obtain ⟨x1, _, rfl, h1, rfl⟩ := g0
  obtain ⟨a0, rfl⟩ := ar_mp h0
  obtain ⟨a1, rfl⟩ := ar_fld h1
  exact f16 known a0 a1
theorem true_facts : joinedFacts Tryz.prog 16 Tryz.f16 Rows.chartTrueSpec Rows.chartTrueRow = true :=
  and_t (and_t (and_t (and_t (and_t (and_t (and_t (and_t (and_t (and_t (and_t (and_t (and_t (and_t (and_t (and_t (and_t (and_t (and_t (and_t (and_t (and_t (and_t (and_t (and_t (and_t (and_t (and_t (and_t (and_t (and_t ((by kernel_rfl)) laidOut) t_maps) (by kernel_rfl)) (by kernel_rfl)) (by kernel_rfl)) t_stops) (by kernel_rfl)) t_knobs) (by kernel_rfl)) (by kernel_rfl)) (by kernel_rfl)) (by kernel_rfl)) (by kernel_rfl)) (by kernel_rfl)) (by kernel_rfl)) (by kernel_rfl)) (by kernel_rfl)) (by kernel_rfl)) (by kernel_rfl)) (by kernel_rfl)) (by kernel_rfl)) t_keys) (by kernel_rfl)) t_heard) t_enter) t_lifted) t_make) (by kernel_rfl)) (by kernel_rfl)) (by kernel_rfl)) (by kernel_rfl)
theorem true_name : Tryz.prog.funcNamed "isobar/isobarlaw03.ChartTrue" = some 16 := by kernel_rfl
theorem true_inst : Tryz.f16.isInstance Tryz.prog Rows.chartTrueRow.origin Rows.chartTrueRow.targs := of_decide_eq_true (by kernel_rfl)
theorem true_wrap : Tryz.f16.isWrapper Tryz.prog Rows.chartTrueRow.wrapper Rows.chartTrueRow.mainSum := by unfold Func.isWrapper; first | (rw [if_pos (by decide +kernel)]; kernel_rfl) | (rw [if_neg (by decide +kernel)]; exact ⟨rfl, rfl⟩)
theorem true_noInit : Tryz.prog.inits.idxOf? 16 = none := by kernel_rfl
theorem true_plain : (Tryz.f16.params.toList.all fun t => plainB Tryz.prog (8 + 1) t) = true := by kernel_rfl
theorem true_read : (Tryz.f16.params.toList.all fun t => Tryz.prog.readableRec t && decide (t < Tryz.prog.types.size)) = true := by kernel_rfl
theorem true_witness {H : Type} (enc : TypeId × Value → H) (os : Os) : ∃ (w : World) (tape : Tape) (i : Input), w.os = os ∧ (w.forCall tape i).Shaped Tryz.checked.prog ∧ i.vars = [] ∧ Input.okWide Tryz.checked.prog (w.forCall tape i) .any w.heap.size 16 i ∧
      ((Rows.chartTrueSpec.pre enc Tryz.checked.prog Tryz.f16 [] false (w.forCall tape i).memory i.args ∧ laidMetH Tryz.prog laid3 (w.forCall tape i).memory) ∧ sizedMet enc Tryz.checked.prog Tryz.f16 (OpenSpec.ofChange Rows.chartTrueSpec) false (w.forCall tape i).memory i.args) ∧ ({} : Assume).holds Tryz.checked.prog (lone (Frame.enter Tryz.checked.prog 16 i.args .normal) [] (w.forCall tape i)) :=
  ChangeSpec.witness_shaped (enc := enc) (C := Tryz.checked) (os := os) (X := fun w _ => laidMetH Tryz.prog laid3 w) false (World.doorLaid Tryz.prog 400 os) #[.agg #[.int .i64 0, .int .i64 0, .int .i64 0, .slice none 0 0], .agg #[.int .i64 0, .slice none 0 0]] 8 rfl (World.shaped_of_RefB (by kernel_rfl) (by kernel_rfl)) (by kernel_rfl) (by kernel_rfl) (by kernel_rfl) (door_met os _)
theorem true_holds : Rows.ChartTrueSaid :=
  OpenClaim.holds_of_wide 16 Tryz.f16 rfl rfl rfl rfl rfl rfl rfl ⟨rfl, rfl, rfl, rfl, rfl⟩ rfl rfl rfl rfl rfl true_name Tryz.func16 true_facts true_inst true_wrap
    (fun os started H enc _ => lifted os started H enc (s := Rows.chartTrueSpec) (n := 8) Tryz.func16 true_noInit true_plain true_read rfl rfl
      (fun ds hd => match ds, hd with | [_, _], _ => rfl) true_all (true_witness enc os))
theorem true_wf : Rows.chartTrueRow.wfByText (OpenSpec.ofChange Rows.chartTrueSpec) = true := by kernel_rfl
theorem true_main : Tryz.pinned.checked.prog.mainIs = some (true, "2d17a4dc9e16d3a73f126c826b77bd7af92222a396f0142bc46a5dacda5c891f".toList) := by kernel_rfl
theorem true_noStand : (Tryz.f16.params.toList.all fun t => !Tryz.prog.wantsStandIn t) = true := by kernel_rfl
theorem true_goes : false = Rows.chartTrueRow.goesBy Tryz.prog := by kernel_rfl
theorem true_card : Rows.ChartTrueCardSaid :=
  Claim7.holds_tied_plain_at .later [] [.data, .data, .data] true (true, "2d17a4dc9e16d3a73f126c826b77bd7af92222a396f0142bc46a5dacda5c891f") true
    true_holds (fun _ h => by cases h) true_wf (fun _ h => by cases h) chartTrue_row_tie rfl ⟨rfl, rfl⟩ true_main rfl
    (fun f fn hf hfn => by
      obtain rfl : f = 16 := Option.some.inj (true_name.symm.trans hf) |>.symm
      obtain rfl : fn = Tryz.f16 := (Option.some.inj (Tryz.func16.symm.trans hfn)).symm
      refine ⟨looks_all, fun j t ht => ?_⟩
      have h3 := List.all_eq_true.1 true_noStand t (by rw [Array.mem_toList_iff]; exact Array.mem_of_getElem? ht)
      have h4 : Tryz.prog.wantsStandIn t = false := by simpa using h3
      exact h4)
    true_goes
#print axioms true_card
end Go.Proofs.YtdjncbjfejdamaaGreatDoor
end
