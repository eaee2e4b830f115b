/- ChartSpoilt: for every input the law returns true and leaves its arguments as they were; the program's variables are laid as its text lays them. -/
import Derived.Test.YtdjncbjfejdamaaGreatDoorFrame
import Derived.Test.YtdjncbjfejdamaaGreatDoorFrameL
import Derived.Test.YtdjncbjfejdamaaGreatDoorExG
import Derived.Test.YtdjncbjfejdamaaGreatDoorStG
set_option linter.unusedVariables false
set_option linter.unusedSimpArgs false
section
namespace Go.Proofs.YtdjncbjfejdamaaGreatDoor
open Go Go.ChangeShapes Go.WideShapes Go.ChangeAt Go.RowKit Go.Av Go.Bv
set_option maxRecDepth 100000
theorem spoilt_all (xs : List AV) (h : ArgsAV Tryz.prog 8 Tryz.f19.params.toList xs) : ACall Tryz.prog GT 19 xs (.v (.bool true)) := by
  obtain ⟨x0, _, rfl, h0, g0⟩ := h
  obtain ⟨x1, _, rfl, h1, g1⟩ := g0
  obtain ⟨x2, _, rfl, h2, rfl⟩ := g1
  obtain ⟨a0, rfl⟩ := ar_fld h0
  obtain ⟨a1, rfl⟩ := ar_int h1
  obtain ⟨a2, rfl⟩ := ar_int h2
  exact f19 known a0 a1 a2
theorem spoilt_facts : joinedFacts Tryz.prog 19 Tryz.f19 Rows.chartSpoiltSpec Rows.chartSpoiltRow = true :=
  and_t (and_t (and_t (and_t (and_t (and_t (and_t (and_t (and_t (and_t (and_t (and_t (and_t (and_t (and_t (and_t (and_t (and_t (and_t (and_t (and_t (and_t (and_t (and_t (and_t (and_t (and_t (and_t (and_t (and_t (and_t ((by kernel_rfl)) laidOut) t_maps) (by kernel_rfl)) (by kernel_rfl)) (by kernel_rfl)) t_stops) (by kernel_rfl)) t_knobs) (by kernel_rfl)) (by kernel_rfl)) (by kernel_rfl)) (by kernel_rfl)) (by kernel_rfl)) (by kernel_rfl)) (by kernel_rfl)) (by kernel_rfl)) (by kernel_rfl)) (by kernel_rfl)) (by kernel_rfl)) (by kernel_rfl)) (by kernel_rfl)) t_keys) (by kernel_rfl)) t_heard) t_enter) t_lifted) t_make) (by kernel_rfl)) (by kernel_rfl)) (by kernel_rfl)) (by kernel_rfl)
theorem spoilt_name : Tryz.prog.funcNamed "isobar/isobarlaw03.ChartSpoilt" = some 19 := by kernel_rfl
theorem spoilt_inst : Tryz.f19.isInstance Tryz.prog Rows.chartSpoiltRow.origin Rows.chartSpoiltRow.targs := of_decide_eq_true (by kernel_rfl)
theorem spoilt_wrap : Tryz.f19.isWrapper Tryz.prog Rows.chartSpoiltRow.wrapper Rows.chartSpoiltRow.mainSum := by unfold Func.isWrapper; first | (rw [if_pos (by decide +kernel)]; kernel_rfl) | (rw [if_neg (by decide +kernel)]; exact ⟨rfl, rfl⟩)
theorem spoilt_noInit : Tryz.prog.inits.idxOf? 19 = none := by kernel_rfl
theorem spoilt_plain : (Tryz.f19.params.toList.all fun t => plainB Tryz.prog (8 + 1) t) = true := by kernel_rfl
theorem spoilt_read : (Tryz.f19.params.toList.all fun t => Tryz.prog.readableRec t && decide (t < Tryz.prog.types.size)) = true := by kernel_rfl
theorem spoilt_witness {H : Type} (enc : TypeId × Value → H) (os : Os) : ∃ (w : World) (tape : Tape) (i : Input), w.os = os ∧ (w.forCall tape i).Shaped Tryz.checked.prog ∧ i.vars = [] ∧ Input.okWide Tryz.checked.prog (w.forCall tape i) .any w.heap.size 19 i ∧
      ((Rows.chartSpoiltSpec.pre enc Tryz.checked.prog Tryz.f19 [] false (w.forCall tape i).memory i.args ∧ laidMetH Tryz.prog laid5 (w.forCall tape i).memory) ∧ sizedMet enc Tryz.checked.prog Tryz.f19 (OpenSpec.ofChange Rows.chartSpoiltSpec) false (w.forCall tape i).memory i.args) ∧ ({} : Assume).holds Tryz.checked.prog (lone (Frame.enter Tryz.checked.prog 19 i.args .normal) [] (w.forCall tape i)) :=
  ChangeSpec.witness_shaped (enc := enc) (C := Tryz.checked) (os := os) (X := fun w _ => laidMetH Tryz.prog laid5 w) false (World.laidAll Tryz.prog os laid5) #[.agg #[.int .i64 0, .slice none 0 0], .int .i64 0, .int .i64 0] 8 (World.laidAll_os _ _ _) (shaped5 os _) (by kernel_rfl) (by kernel_rfl) (by kernel_rfl) (door_met5 os _)
theorem spoilt_holds : Rows.ChartSpoiltSaid :=
  OpenClaim.holds_of_wide 19 Tryz.f19 rfl rfl rfl rfl rfl rfl rfl ⟨rfl, rfl, rfl, rfl, rfl⟩ rfl rfl rfl rfl rfl spoilt_name Tryz.func19 spoilt_facts spoilt_inst spoilt_wrap
    (fun os started H enc _ => liftedL tab_of_laid5 os started H enc (s := Rows.chartSpoiltSpec) (n := 8) Tryz.func19 spoilt_noInit spoilt_plain spoilt_read rfl rfl
      (fun ds hd => match ds, hd with | [_, _, _], _ => rfl) spoilt_all (spoilt_witness enc os))
theorem spoilt_wf : Rows.chartSpoiltRow.wfByText (OpenSpec.ofChange Rows.chartSpoiltSpec) = true := by kernel_rfl
theorem spoilt_main : Tryz.pinned.checked.prog.mainIs = some (true, "2d17a4dc9e16d3a73f126c826b77bd7af92222a396f0142bc46a5dacda5c891f".toList) := by kernel_rfl
theorem spoilt_noStand : (Tryz.f19.params.toList.all fun t => !Tryz.prog.wantsStandIn t) = true := by kernel_rfl
theorem spoilt_goes : false = Rows.chartSpoiltRow.goesBy Tryz.prog := by kernel_rfl
theorem spoilt_card : Rows.ChartSpoiltCardSaid :=
  Claim7.holds_tied_plain_at .later [] [.data, .data, .data, .data, .pinned] true (true, "2d17a4dc9e16d3a73f126c826b77bd7af92222a396f0142bc46a5dacda5c891f") true
    spoilt_holds (fun _ h => by cases h) spoilt_wf (fun _ h => by cases h) chartSpoilt_row_tie rfl ⟨rfl, rfl⟩ spoilt_main rfl
    (fun f fn hf hfn => by
      obtain rfl : f = 19 := Option.some.inj (spoilt_name.symm.trans hf) |>.symm
      obtain rfl : fn = Tryz.f19 := (Option.some.inj (Tryz.func19.symm.trans hfn)).symm
      refine ⟨looks_all, fun j t ht => ?_⟩
      have h3 := List.all_eq_true.1 spoilt_noStand t (by rw [Array.mem_toList_iff]; exact Array.mem_of_getElem? ht)
      have h4 : Tryz.prog.wantsStandIn t = false := by simpa using h3
      exact h4)
    spoilt_goes
#print axioms spoilt_card
end Go.Proofs.YtdjncbjfejdamaaGreatDoor
end
