/- ChartMore: for every input the law returns true and leaves its arguments as they were; the program's variables are laid as its text lays them. -/
import Derived.Test.YtdjncbjfejdamaaGreatDoorFrame
import Derived.Test.YtdjncbjfejdamaaGreatDoorExG
import Derived.Test.YtdjncbjfejdamaaGreatDoorChK
set_option linter.unusedVariables false
set_option linter.unusedSimpArgs false
section
namespace Go.Proofs.YtdjncbjfejdamaaGreatDoor
open Go Go.ChangeShapes Go.WideShapes Go.ChangeAt Go.RowKit Go.Av Go.Bv
set_option maxRecDepth 100000
theorem ar_stn {x : AV} (h : argAV Tryz.prog 8 78 x) : ∃ s : Stn, x = .agg (eStn s) := by
  unfold argAV at h
  rw [Tryz.underlying78] at h
  obtain ⟨xs, rfl, h⟩ := h
  obtain ⟨s, rfl⟩ := pl_stn (n := 6) (by unfold PlainAV; rw [Tryz.underlying78]; exact h)
  exact ⟨s, rfl⟩
theorem more_all (xs : List AV) (h : ArgsAV Tryz.prog 8 Tryz.f11.params.toList xs) : ACall Tryz.prog GT 11 xs (.v (.bool true)) := by
  obtain ⟨x0, _, rfl, h0, g0⟩ := h
  obtain ⟨x1, _, rfl, h1, g1⟩ := g0
  obtain ⟨x2, _, rfl, h2, g2⟩ := g1
  obtain ⟨x3, _, rfl, h3, g3⟩ := g2
  obtain ⟨x4, _, rfl, h4, rfl⟩ := g3
  obtain ⟨a0, rfl⟩ := ar_mp h0
  obtain ⟨a1, rfl⟩ := ar_stn h1
  obtain ⟨a2, rfl⟩ := ar_int h2
  obtain ⟨a3, rfl⟩ := ar_int h3
  obtain ⟨a4, rfl⟩ := ar_int h4
  exact f11 known a0 a1 a2 a3 a4
theorem more_facts : joinedFacts Tryz.prog 11 Tryz.f11 Rows.chartMoreSpec Rows.chartMoreRow = true :=
  and_t (and_t (and_t (and_t (and_t (and_t (and_t (and_t (and_t (and_t (and_t (and_t (and_t (and_t (and_t (and_t (and_t (and_t (and_t (and_t (and_t (and_t (and_t (and_t (and_t (and_t (and_t (and_t (and_t (and_t (and_t ((by kernel_rfl)) laidOut) t_maps) (by kernel_rfl)) (by kernel_rfl)) (by kernel_rfl)) t_stops) (by kernel_rfl)) t_knobs) (by kernel_rfl)) (by kernel_rfl)) (by kernel_rfl)) (by kernel_rfl)) (by kernel_rfl)) (by kernel_rfl)) (by kernel_rfl)) (by kernel_rfl)) (by kernel_rfl)) (by kernel_rfl)) (by kernel_rfl)) (by kernel_rfl)) (by kernel_rfl)) t_keys) (by kernel_rfl)) t_heard) t_enter) t_lifted) t_make) (by kernel_rfl)) (by kernel_rfl)) (by kernel_rfl)) (by kernel_rfl)
theorem more_name : Tryz.prog.funcNamed "isobar/isobarlaw03.ChartMore" = some 11 := by kernel_rfl
theorem more_inst : Tryz.f11.isInstance Tryz.prog Rows.chartMoreRow.origin Rows.chartMoreRow.targs := of_decide_eq_true (by kernel_rfl)
theorem more_wrap : Tryz.f11.isWrapper Tryz.prog Rows.chartMoreRow.wrapper Rows.chartMoreRow.mainSum := by unfold Func.isWrapper; first | (rw [if_pos (by decide +kernel)]; kernel_rfl) | (rw [if_neg (by decide +kernel)]; exact ⟨rfl, rfl⟩)
theorem more_noInit : Tryz.prog.inits.idxOf? 11 = none := by kernel_rfl
theorem more_plain : (Tryz.f11.params.toList.all fun t => plainB Tryz.prog (8 + 1) t) = true := by kernel_rfl
theorem more_read : (Tryz.f11.params.toList.all fun t => Tryz.prog.readableRec t && decide (t < Tryz.prog.types.size)) = true := by kernel_rfl
theorem more_witness {H : Type} (enc : TypeId × Value → H) (os : Os) : ∃ (w : World) (tape : Tape) (i : Input), w.os = os ∧ (w.forCall tape i).Shaped Tryz.checked.prog ∧ i.vars = [] ∧ Input.okWide Tryz.checked.prog (w.forCall tape i) .any w.heap.size 11 i ∧
      ((Rows.chartMoreSpec.pre enc Tryz.checked.prog Tryz.f11 [] false (w.forCall tape i).memory i.args ∧ laidMetH Tryz.prog laid3 (w.forCall tape i).memory) ∧ sizedMet enc Tryz.checked.prog Tryz.f11 (OpenSpec.ofChange Rows.chartMoreSpec) false (w.forCall tape i).memory i.args) ∧ ({} : Assume).holds Tryz.checked.prog (lone (Frame.enter Tryz.checked.prog 11 i.args .normal) [] (w.forCall tape i)) :=
  ChangeSpec.witness_shaped (enc := enc) (C := Tryz.checked) (os := os) (X := fun w _ => laidMetH Tryz.prog laid3 w) false (World.doorLaid Tryz.prog 400 os) #[.agg #[.int .i64 0, .int .i64 0, .int .i64 0, .slice none 0 0], .agg #[.int .i64 0, .int .i64 0, .int .i64 0], .int .i64 0, .int .i64 0, .int .i64 0] 8 rfl (World.shaped_of_RefB (by kernel_rfl) (by kernel_rfl)) (by kernel_rfl) (by kernel_rfl) (by kernel_rfl) (door_met os _)
theorem more_holds : Rows.ChartMoreSaid :=
  OpenClaim.holds_of_wide 11 Tryz.f11 rfl rfl rfl rfl rfl rfl rfl ⟨rfl, rfl, rfl, rfl, rfl⟩ rfl rfl rfl rfl rfl more_name Tryz.func11 more_facts more_inst more_wrap
    (fun os started H enc _ => lifted os started H enc (s := Rows.chartMoreSpec) (n := 8) Tryz.func11 more_noInit more_plain more_read rfl rfl
      (fun ds hd => match ds, hd with | [_, _, _, _, _], _ => rfl) more_all (more_witness enc os))
theorem more_wf : Rows.chartMoreRow.wfByText (OpenSpec.ofChange Rows.chartMoreSpec) = true := by kernel_rfl
theorem more_main : Tryz.pinned.checked.prog.mainIs = some (true, "2d17a4dc9e16d3a73f126c826b77bd7af92222a396f0142bc46a5dacda5c891f".toList) := by kernel_rfl
theorem more_noStand : (Tryz.f11.params.toList.all fun t => !Tryz.prog.wantsStandIn t) = true := by kernel_rfl
theorem more_goes : false = Rows.chartMoreRow.goesBy Tryz.prog := by kernel_rfl
theorem more_card : Rows.ChartMoreCardSaid :=
  Claim7.holds_tied_plain_at .later [] [.data, .data, .data] true (true, "2d17a4dc9e16d3a73f126c826b77bd7af92222a396f0142bc46a5dacda5c891f") true
    more_holds (fun _ h => by cases h) more_wf (fun _ h => by cases h) chartMore_row_tie rfl ⟨rfl, rfl⟩ more_main rfl
    (fun f fn hf hfn => by
      obtain rfl : f = 11 := Option.some.inj (more_name.symm.trans hf) |>.symm
      obtain rfl : fn = Tryz.f11 := (Option.some.inj (Tryz.func11.symm.trans hfn)).symm
      refine ⟨looks_all, fun j t ht => ?_⟩
      have h3 := List.all_eq_true.1 more_noStand t (by rw [Array.mem_toList_iff]; exact Array.mem_of_getElem? ht)
      have h4 : Tryz.prog.wantsStandIn t = false := by simpa using h3
      exact h4)
    more_goes
#print axioms more_card
end Go.Proofs.YtdjncbjfejdamaaGreatDoor
end
