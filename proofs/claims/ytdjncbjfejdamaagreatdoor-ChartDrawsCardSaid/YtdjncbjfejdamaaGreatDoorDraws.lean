/- ChartDraws. -/
import Derived.Test.YtdjncbjfejdamaaGreatDoorFrame
import Derived.Test.YtdjncbjfejdamaaGreatDoorExG
import Derived.Test.YtdjncbjfejdamaaGreatDoorChE
set_option linter.unusedVariables false
set_option linter.unusedSimpArgs false
section
namespace Go.Proofs.YtdjncbjfejdamaaGreatDoor
open Go Go.ChangeShapes Go.WideShapes Go.ChangeAt Go.RowKit Go.Av Go.Bv
set_option maxRecDepth 100000
theorem draws_all (xs : List AV) (h : ArgsAV Tryz.prog 8 Tryz.f3.params.toList xs) : ACall Tryz.prog GT 3 xs (.v (.bool true)) := by
  obtain ⟨x, _, rfl, h1, rfl⟩ := h
  obtain ⟨m, rfl⟩ := ar_mp h1
  exact f3 known m
theorem draws_facts : joinedFacts Tryz.prog 3 Tryz.f3 Rows.chartDrawsSpec Rows.chartDrawsRow = true :=
  and_t (and_t (and_t (and_t (and_t (and_t (and_t (and_t (and_t (and_t (and_t (and_t (and_t (and_t (and_t (and_t (and_t (and_t (and_t (and_t (and_t (and_t (and_t (and_t (and_t (and_t (and_t (and_t (and_t (and_t (and_t ((by kernel_rfl)) laidOut) t_maps) (by kernel_rfl)) (by kernel_rfl)) (by kernel_rfl)) t_stops) (by kernel_rfl)) t_knobs) (by kernel_rfl)) (by kernel_rfl)) (by kernel_rfl)) (by kernel_rfl)) (by kernel_rfl)) (by kernel_rfl)) (by kernel_rfl)) (by kernel_rfl)) (by kernel_rfl)) (by kernel_rfl)) (by kernel_rfl)) (by kernel_rfl)) (by kernel_rfl)) t_keys) (by kernel_rfl)) t_heard) t_enter) t_lifted) t_make) (by kernel_rfl)) (by kernel_rfl)) (by kernel_rfl)) (by kernel_rfl)
theorem draws_name : Tryz.prog.funcNamed "isobar/isobarlaw03.ChartDraws" = some 3 := by kernel_rfl
theorem draws_inst : Tryz.f3.isInstance Tryz.prog Rows.chartDrawsRow.origin Rows.chartDrawsRow.targs := of_decide_eq_true (by kernel_rfl)
theorem draws_wrap : Tryz.f3.isWrapper Tryz.prog Rows.chartDrawsRow.wrapper Rows.chartDrawsRow.mainSum := by unfold Func.isWrapper; first | (rw [if_pos (by decide +kernel)]; kernel_rfl) | (rw [if_neg (by decide +kernel)]; exact ⟨rfl, rfl⟩)
theorem draws_noInit : Tryz.prog.inits.idxOf? 3 = none := by kernel_rfl
theorem draws_plain : (Tryz.f3.params.toList.all fun t => plainB Tryz.prog (8 + 1) t) = true := by kernel_rfl
theorem draws_read : (Tryz.f3.params.toList.all fun t => Tryz.prog.readableRec t && decide (t < Tryz.prog.types.size)) = true := by kernel_rfl
theorem draws_witness {H : Type} (enc : TypeId × Value → H) (os : Os) : ∃ (w : World) (tape : Tape) (i : Input), w.os = os ∧ (w.forCall tape i).Shaped Tryz.checked.prog ∧ i.vars = [] ∧ Input.okWide Tryz.checked.prog (w.forCall tape i) .any w.heap.size 3 i ∧
      ((Rows.chartDrawsSpec.pre enc Tryz.checked.prog Tryz.f3 [] false (w.forCall tape i).memory i.args ∧ laidMetH Tryz.prog laid3 (w.forCall tape i).memory) ∧ sizedMet enc Tryz.checked.prog Tryz.f3 (OpenSpec.ofChange Rows.chartDrawsSpec) false (w.forCall tape i).memory i.args) ∧ ({} : Assume).holds Tryz.checked.prog (lone (Frame.enter Tryz.checked.prog 3 i.args .normal) [] (w.forCall tape i)) :=
  ChangeSpec.witness_shaped (enc := enc) (C := Tryz.checked) (os := os) (X := fun w _ => laidMetH Tryz.prog laid3 w) false (World.doorLaid Tryz.prog 400 os) #[.agg #[.int .i64 0, .int .i64 0, .int .i64 0, .slice none 0 0]] 8 rfl (World.shaped_of_RefB (by kernel_rfl) (by kernel_rfl)) (by kernel_rfl) (by kernel_rfl) (by kernel_rfl) (door_met os _)
theorem draws_holds : Rows.ChartDrawsSaid :=
  OpenClaim.holds_of_wide 3 Tryz.f3 rfl rfl rfl rfl rfl rfl rfl ⟨rfl, rfl, rfl, rfl, rfl⟩ rfl rfl rfl rfl rfl draws_name Tryz.func3 draws_facts draws_inst draws_wrap
    (fun os started H enc _ => lifted os started H enc (s := Rows.chartDrawsSpec) (n := 8) Tryz.func3 draws_noInit draws_plain draws_read rfl rfl
      (fun ds hd => match ds, hd with | [_], _ => rfl) draws_all (draws_witness enc os))
theorem draws_wf : Rows.chartDrawsRow.wfByText (OpenSpec.ofChange Rows.chartDrawsSpec) = true := by kernel_rfl
theorem draws_main : Tryz.pinned.checked.prog.mainIs = some (true, "2d17a4dc9e16d3a73f126c826b77bd7af92222a396f0142bc46a5dacda5c891f".toList) := by kernel_rfl
theorem draws_noStand : (Tryz.f3.params.toList.all fun t => !Tryz.prog.wantsStandIn t) = true := by kernel_rfl
theorem draws_goes : false = Rows.chartDrawsRow.goesBy Tryz.prog := by kernel_rfl
theorem draws_card : Rows.ChartDrawsCardSaid :=
  Claim7.holds_tied_plain_at .later [] [.data, .data, .data] true (true, "2d17a4dc9e16d3a73f126c826b77bd7af92222a396f0142bc46a5dacda5c891f") true
    draws_holds (fun _ h => by cases h) draws_wf (fun _ h => by cases h) chartDraws_row_tie rfl ⟨rfl, rfl⟩ draws_main rfl
    (fun f fn hf hfn => by
      obtain rfl : f = 3 := Option.some.inj (draws_name.symm.trans hf) |>.symm
      obtain rfl : fn = Tryz.f3 := (Option.some.inj (Tryz.func3.symm.trans hfn)).symm
      refine ⟨looks_all, fun j t ht => ?_⟩
      have h3 := List.all_eq_true.1 draws_noStand t (by rw [Array.mem_toList_iff]; exact Array.mem_of_getElem? ht)
      have h4 : Tryz.prog.wantsStandIn t = false := by simpa using h3
      exact h4)
    draws_goes
#print axioms draws_card
end Go.Proofs.YtdjncbjfejdamaaGreatDoor
end
