/- ChartSharp: for every input the law returns true and leaves its arguments as they were; the program's variables are laid as its text lays them. -/
import Derived.Test.YtdjncbjfejdamaaGreatDoorFrame
import Derived.Test.YtdjncbjfejdamaaGreatDoorExG
import Derived.Test.YtdjncbjfejdamaaGreatDoorChP
set_option linter.unusedVariables false
set_option linter.unusedSimpArgs false
section
namespace Go.Proofs.YtdjncbjfejdamaaGreatDoor
open Go Go.ChangeShapes Go.WideShapes Go.ChangeAt Go.RowKit Go.Av Go.Bv
set_option maxRecDepth 100000
theorem sharp_all (xs : List AV) (h : ArgsAV Tryz.prog 8 Tryz.f15.params.toList xs) : ACall Tryz.prog GT 15 xs (.v (.bool true)) := by
  obtain ⟨x0, _, rfl, h0, g0⟩ := h
  obtain ⟨x1, _, rfl, h1, g1⟩ := g0
  obtain ⟨x2, _, rfl, h2, rfl⟩ := g1
  obtain ⟨a0, rfl⟩ := ar_mp h0
  obtain ⟨a1, rfl⟩ := ar_int h1
  obtain ⟨a2, rfl⟩ := ar_int h2
  exact f15 known a0 a1 a2
theorem sharp_facts : joinedFacts Tryz.prog 15 Tryz.f15 Rows.chartSharpSpec Rows.chartSharpRow = true :=
  and_t (and_t (and_t (and_t (and_t (and_t (and_t (and_t (and_t (and_t (and_t (and_t (and_t (and_t (and_t (and_t (and_t (and_t (and_t (and_t (and_t (and_t (and_t (and_t (and_t (and_t (and_t (and_t (and_t (and_t (and_t ((by kernel_rfl)) laidOut) t_maps) (by kernel_rfl)) (by kernel_rfl)) (by kernel_rfl)) t_stops) (by kernel_rfl)) t_knobs) (by kernel_rfl)) (by kernel_rfl)) (by kernel_rfl)) (by kernel_rfl)) (by kernel_rfl)) (by kernel_rfl)) (by kernel_rfl)) (by kernel_rfl)) (by kernel_rfl)) (by kernel_rfl)) (by kernel_rfl)) (by kernel_rfl)) (by kernel_rfl)) t_keys) (by kernel_rfl)) t_heard) t_enter) t_lifted) t_make) (by kernel_rfl)) (by kernel_rfl)) (by kernel_rfl)) (by kernel_rfl)
theorem sharp_name : Tryz.prog.funcNamed "isobar/isobarlaw03.ChartSharp" = some 15 := by kernel_rfl
theorem sharp_inst : Tryz.f15.isInstance Tryz.prog Rows.chartSharpRow.origin Rows.chartSharpRow.targs := of_decide_eq_true (by kernel_rfl)
theorem sharp_wrap : Tryz.f15.isWrapper Tryz.prog Rows.chartSharpRow.wrapper Rows.chartSharpRow.mainSum := by unfold Func.isWrapper; first | (rw [if_pos (by decide +kernel)]; kernel_rfl) | (rw [if_neg (by decide +kernel)]; exact ⟨rfl, rfl⟩)
theorem sharp_noInit : Tryz.prog.inits.idxOf? 15 = none := by kernel_rfl
theorem sharp_plain : (Tryz.f15.params.toList.all fun t => plainB Tryz.prog (8 + 1) t) = true := by kernel_rfl
theorem sharp_read : (Tryz.f15.params.toList.all fun t => Tryz.prog.readableRec t && decide (t < Tryz.prog.types.size)) = true := by kernel_rfl
theorem sharp_witness {H : Type} (enc : TypeId × Value → H) (os : Os) : ∃ (w : World) (tape : Tape) (i : Input), w.os = os ∧ (w.forCall tape i).Shaped Tryz.checked.prog ∧ i.vars = [] ∧ Input.okWide Tryz.checked.prog (w.forCall tape i) .any w.heap.size 15 i ∧
      ((Rows.chartSharpSpec.pre enc Tryz.checked.prog Tryz.f15 [] false (w.forCall tape i).memory i.args ∧ laidMetH Tryz.prog laid3 (w.forCall tape i).memory) ∧ sizedMet enc Tryz.checked.prog Tryz.f15 (OpenSpec.ofChange Rows.chartSharpSpec) false (w.forCall tape i).memory i.args) ∧ ({} : Assume).holds Tryz.checked.prog (lone (Frame.enter Tryz.checked.prog 15 i.args .normal) [] (w.forCall tape i)) :=
  ChangeSpec.witness_shaped (enc := enc) (C := Tryz.checked) (os := os) (X := fun w _ => laidMetH Tryz.prog laid3 w) false (World.doorLaid Tryz.prog 400 os) #[.agg #[.int .i64 0, .int .i64 0, .int .i64 0, .slice none 0 0], .int .i64 0, .int .i64 0] 8 rfl (World.shaped_of_RefB (by kernel_rfl) (by kernel_rfl)) (by kernel_rfl) (by kernel_rfl) (by kernel_rfl) (door_met os _)
theorem sharp_holds : Rows.ChartSharpSaid :=
  OpenClaim.holds_of_wide 15 Tryz.f15 rfl rfl rfl rfl rfl rfl rfl ⟨rfl, rfl, rfl, rfl, rfl⟩ rfl rfl rfl rfl rfl sharp_name Tryz.func15 sharp_facts sharp_inst sharp_wrap
    (fun os started H enc _ => lifted os started H enc (s := Rows.chartSharpSpec) (n := 8) Tryz.func15 sharp_noInit sharp_plain sharp_read rfl rfl
      (fun ds hd => match ds, hd with | [_, _, _], _ => rfl) sharp_all (sharp_witness enc os))
theorem sharp_wf : Rows.chartSharpRow.wfByText (OpenSpec.ofChange Rows.chartSharpSpec) = true := by kernel_rfl
theorem sharp_main : Tryz.pinned.checked.prog.mainIs = some (true, "2d17a4dc9e16d3a73f126c826b77bd7af92222a396f0142bc46a5dacda5c891f".toList) := by kernel_rfl
theorem sharp_noStand : (Tryz.f15.params.toList.all fun t => !Tryz.prog.wantsStandIn t) = true := by kernel_rfl
theorem sharp_goes : false = Rows.chartSharpRow.goesBy Tryz.prog := by kernel_rfl
theorem sharp_card : Rows.ChartSharpCardSaid :=
  Claim7.holds_tied_plain_at .later [] [.data, .data, .data] true (true, "2d17a4dc9e16d3a73f126c826b77bd7af92222a396f0142bc46a5dacda5c891f") true
    sharp_holds (fun _ h => by cases h) sharp_wf (fun _ h => by cases h) chartSharp_row_tie rfl ⟨rfl, rfl⟩ sharp_main rfl
    (fun f fn hf hfn => by
      obtain rfl : f = 15 := Option.some.inj (sharp_name.symm.trans hf) |>.symm
      obtain rfl : fn = Tryz.f15 := (Option.some.inj (Tryz.func15.symm.trans hfn)).symm
      refine ⟨looks_all, fun j t ht => ?_⟩
      have h3 := List.all_eq_true.1 sharp_noStand t (by rw [Array.mem_toList_iff]; exact Array.mem_of_getElem? ht)
      have h4 : Tryz.prog.wantsStandIn t = false := by simpa using h3
      exact h4)
    sharp_goes
#print axioms sharp_card
end Go.Proofs.YtdjncbjfejdamaaGreatDoor
end
