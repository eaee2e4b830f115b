/- WireRepeats: for every input the law returns true and leaves its arguments as they were; the program's variables are laid as its text lays them. -/
import Derived.Test.YtaphehlgijlfeaaGreatDoorFrame
import Derived.Test.YtaphehlgijlfeaaGreatDoorExK
import Derived.Test.YtaphehlgijlfeaaGreatDoorWiV
set_option linter.unusedVariables false
set_option linter.unusedSimpArgs false
section
namespace Go.Proofs.YtaphehlgijlfeaaGreatDoor
open Go Go.ChangeShapes Go.WideShapes Go.ChangeAt Go.RowKit Go.Av Go.Bv
set_option maxRecDepth 100000
theorem repeats_all (xs : List AV) (h : ArgsAV Tryz.prog 8 Tryz.f8.params.toList xs) : ACall Tryz.prog GT 8 xs (.v (.bool true)) := by
  obtain ⟨x0, _, rfl, h0, g0⟩ := h
  obtain ⟨x1, _, rfl, h1, g1⟩ := g0
  obtain ⟨x2, _, rfl, h2, g2⟩ := g1
  obtain ⟨x3, _, rfl, h3, rfl⟩ := g2
  obtain ⟨a0, rfl⟩ := ar_cod h0
  obtain ⟨a1, rfl⟩ := ar_cps h1
  obtain ⟨a2, rfl⟩ := ar_int h2
  obtain ⟨a3, rfl⟩ := ar_int h3
  exact f8 known a0 a1 a2 a3
theorem repeats_facts : joinedFacts Tryz.prog 8 Tryz.f8 Rows.wireRepeatsSpec Rows.wireRepeatsRow = true :=
  and_t (and_t (and_t (and_t (and_t (and_t (and_t (and_t (and_t (and_t (and_t (and_t (and_t (and_t (and_t (and_t (and_t (and_t (and_t (and_t (and_t (and_t (and_t (and_t (and_t (and_t (and_t (and_t (and_t (and_t (and_t ((by kernel_rfl)) laidOut) t_maps) (by kernel_rfl)) (by kernel_rfl)) (by kernel_rfl)) t_stops) (by kernel_rfl)) t_knobs) (by kernel_rfl)) (by kernel_rfl)) (by kernel_rfl)) (by kernel_rfl)) (by kernel_rfl)) (by kernel_rfl)) (by kernel_rfl)) (by kernel_rfl)) (by kernel_rfl)) (by kernel_rfl)) (by kernel_rfl)) (by kernel_rfl)) (by kernel_rfl)) t_keys) (by kernel_rfl)) t_heard) t_enter) t_lifted) t_make) (by kernel_rfl)) (by kernel_rfl)) (by kernel_rfl)) (by kernel_rfl)
theorem repeats_name : Tryz.prog.funcNamed "isobar/isobarlaw02.WireRepeats" = some 8 := by kernel_rfl
theorem repeats_inst : Tryz.f8.isInstance Tryz.prog Rows.wireRepeatsRow.origin Rows.wireRepeatsRow.targs := of_decide_eq_true (by kernel_rfl)
theorem repeats_wrap : Tryz.f8.isWrapper Tryz.prog Rows.wireRepeatsRow.wrapper Rows.wireRepeatsRow.mainSum := by unfold Func.isWrapper; first | (rw [if_pos (by decide +kernel)]; kernel_rfl) | (rw [if_neg (by decide +kernel)]; exact ⟨rfl, rfl⟩)
theorem repeats_noInit : Tryz.prog.inits.idxOf? 8 = none := by kernel_rfl
theorem repeats_plain : (Tryz.f8.params.toList.all fun t => plainB Tryz.prog (8 + 1) t) = true := by kernel_rfl
theorem repeats_read : (Tryz.f8.params.toList.all fun t => Tryz.prog.readableRec t && decide (t < Tryz.prog.types.size)) = true := by kernel_rfl
theorem repeats_witness {H : Type} (enc : TypeId × Value → H) (os : Os) : ∃ (w : World) (tape : Tape) (i : Input), w.os = os ∧ (w.forCall tape i).Shaped Tryz.checked.prog ∧ i.vars = [] ∧ Input.okWide Tryz.checked.prog (w.forCall tape i) .any w.heap.size 8 i ∧
      ((Rows.wireRepeatsSpec.pre enc Tryz.checked.prog Tryz.f8 [] false (w.forCall tape i).memory i.args ∧ laidMetH Tryz.prog laid3 (w.forCall tape i).memory) ∧ sizedMet enc Tryz.checked.prog Tryz.f8 (OpenSpec.ofChange Rows.wireRepeatsSpec) false (w.forCall tape i).memory i.args) ∧ ({} : Assume).holds Tryz.checked.prog (lone (Frame.enter Tryz.checked.prog 8 i.args .normal) [] (w.forCall tape i)) :=
  ChangeSpec.witness_shaped (enc := enc) (C := Tryz.checked) (os := os) (X := fun w _ => laidMetH Tryz.prog laid3 w) false (World.doorLaid Tryz.prog 400 os) #[.agg #[.slice none 0 0, .slice none 0 0, .int .i64 0], .slice none 0 0, .int .i64 0, .int .i64 0] 8 rfl (World.shaped_of_RefB (by kernel_rfl) (by kernel_rfl)) (by kernel_rfl) (by kernel_rfl) (by kernel_rfl) (door_met os _)
theorem repeats_holds : Rows.WireRepeatsSaid :=
  OpenClaim.holds_of_wide 8 Tryz.f8 rfl rfl rfl rfl rfl rfl rfl ⟨rfl, rfl, rfl, rfl, rfl⟩ rfl rfl rfl rfl rfl repeats_name Tryz.func8 repeats_facts repeats_inst repeats_wrap
    (fun os started H enc _ => lifted os started H enc (s := Rows.wireRepeatsSpec) (n := 8) Tryz.func8 repeats_noInit repeats_plain repeats_read rfl rfl
      (fun ds hd => match ds, hd with | [_, _, _, _], _ => rfl) repeats_all (repeats_witness enc os))
theorem repeats_wf : Rows.wireRepeatsRow.wfByText (OpenSpec.ofChange Rows.wireRepeatsSpec) = true := by kernel_rfl
theorem repeats_main : Tryz.pinned.checked.prog.mainIs = some (true, "faf32b471a4046c26054fd80b9544b2851aca4c527019fae6cdd7dbae78c9e5d".toList) := by kernel_rfl
theorem repeats_noStand : (Tryz.f8.params.toList.all fun t => !Tryz.prog.wantsStandIn t) = true := by kernel_rfl
theorem repeats_goes : false = Rows.wireRepeatsRow.goesBy Tryz.prog := by kernel_rfl
theorem repeats_card : Rows.WireRepeatsCardSaid :=
  Claim7.holds_tied_plain_at .later [] [.data, .data, .data] true (true, "faf32b471a4046c26054fd80b9544b2851aca4c527019fae6cdd7dbae78c9e5d") true
    repeats_holds (fun _ h => by cases h) repeats_wf (fun _ h => by cases h) wireRepeats_row_tie rfl ⟨rfl, rfl⟩ repeats_main rfl
    (fun f fn hf hfn => by
      obtain rfl : f = 8 := Option.some.inj (repeats_name.symm.trans hf) |>.symm
      obtain rfl : fn = Tryz.f8 := (Option.some.inj (Tryz.func8.symm.trans hfn)).symm
      refine ⟨looks_all, fun j t ht => ?_⟩
      have h3 := List.all_eq_true.1 repeats_noStand t (by rw [Array.mem_toList_iff]; exact Array.mem_of_getElem? ht)
      have h4 : Tryz.prog.wantsStandIn t = false := by simpa using h3
      exact h4)
    repeats_goes
#print axioms repeats_card
end Go.Proofs.YtaphehlgijlfeaaGreatDoor
end
