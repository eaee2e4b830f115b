/- WireRestores: for every input the law returns true and leaves its arguments as they were; the program's variables are laid as its text lays them. -/
import Derived.Test.YtaphehlgijlfeaaGreatDoorFrame
import Derived.Test.YtaphehlgijlfeaaGreatDoorExK
import Derived.Test.YtaphehlgijlfeaaGreatDoorWiS
set_option linter.unusedVariables false
set_option linter.unusedSimpArgs false
section
namespace Go.Proofs.YtaphehlgijlfeaaGreatDoor
open Go Go.ChangeShapes Go.WideShapes Go.ChangeAt Go.RowKit Go.Av Go.Bv
set_option maxRecDepth 100000
theorem restores_all (xs : List AV) (h : ArgsAV Tryz.prog 8 Tryz.f4.params.toList xs) : ACall Tryz.prog GT 4 xs (.v (.bool true)) := by
  obtain ⟨x0, _, rfl, h0, g0⟩ := h
  obtain ⟨x1, _, rfl, h1, g1⟩ := g0
  obtain ⟨x2, _, rfl, h2, g2⟩ := g1
  obtain ⟨x3, _, rfl, h3, g3⟩ := g2
  obtain ⟨x4, _, rfl, h4, g4⟩ := g3
  obtain ⟨x5, _, rfl, h5, g5⟩ := g4
  obtain ⟨x6, _, rfl, h6, rfl⟩ := g5
  obtain ⟨a0, rfl⟩ := ar_cod h0
  obtain ⟨a1, rfl⟩ := ar_ints h1
  obtain ⟨a2, rfl⟩ := ar_int h2
  obtain ⟨a3, rfl⟩ := ar_int h3
  obtain ⟨a4, rfl⟩ := ar_int h4
  obtain ⟨a5, rfl⟩ := ar_int h5
  obtain ⟨a6, rfl⟩ := ar_int h6
  exact f4 known a0 a1 a2 a3 a4 a5 a6
theorem restores_facts : joinedFacts Tryz.prog 4 Tryz.f4 Rows.wireRestoresSpec Rows.wireRestoresRow = true :=
  and_t (and_t (and_t (and_t (and_t (and_t (and_t (and_t (and_t (and_t (and_t (and_t (and_t (and_t (and_t (and_t (and_t (and_t (and_t (and_t (and_t (and_t (and_t (and_t (and_t (and_t (and_t (and_t (and_t (and_t (and_t ((by kernel_rfl)) laidOut) t_maps) (by kernel_rfl)) (by kernel_rfl)) (by kernel_rfl)) t_stops) (by kernel_rfl)) t_knobs) (by kernel_rfl)) (by kernel_rfl)) (by kernel_rfl)) (by kernel_rfl)) (by kernel_rfl)) (by kernel_rfl)) (by kernel_rfl)) (by kernel_rfl)) (by kernel_rfl)) (by kernel_rfl)) (by kernel_rfl)) (by kernel_rfl)) (by kernel_rfl)) t_keys) (by kernel_rfl)) t_heard) t_enter) t_lifted) t_make) (by kernel_rfl)) (by kernel_rfl)) (by kernel_rfl)) (by kernel_rfl)
theorem restores_name : Tryz.prog.funcNamed "isobar/isobarlaw02.WireRestores" = some 4 := by kernel_rfl
theorem restores_inst : Tryz.f4.isInstance Tryz.prog Rows.wireRestoresRow.origin Rows.wireRestoresRow.targs := of_decide_eq_true (by kernel_rfl)
theorem restores_wrap : Tryz.f4.isWrapper Tryz.prog Rows.wireRestoresRow.wrapper Rows.wireRestoresRow.mainSum := by unfold Func.isWrapper; first | (rw [if_pos (by decide +kernel)]; kernel_rfl) | (rw [if_neg (by decide +kernel)]; exact ⟨rfl, rfl⟩)
theorem restores_noInit : Tryz.prog.inits.idxOf? 4 = none := by kernel_rfl
theorem restores_plain : (Tryz.f4.params.toList.all fun t => plainB Tryz.prog (8 + 1) t) = true := by kernel_rfl
theorem restores_read : (Tryz.f4.params.toList.all fun t => Tryz.prog.readableRec t && decide (t < Tryz.prog.types.size)) = true := by kernel_rfl
theorem restores_witness {H : Type} (enc : TypeId × Value → H) (os : Os) : ∃ (w : World) (tape : Tape) (i : Input), w.os = os ∧ (w.forCall tape i).Shaped Tryz.checked.prog ∧ i.vars = [] ∧ Input.okWide Tryz.checked.prog (w.forCall tape i) .any w.heap.size 4 i ∧
      ((Rows.wireRestoresSpec.pre enc Tryz.checked.prog Tryz.f4 [] false (w.forCall tape i).memory i.args ∧ laidMetH Tryz.prog laid3 (w.forCall tape i).memory) ∧ sizedMet enc Tryz.checked.prog Tryz.f4 (OpenSpec.ofChange Rows.wireRestoresSpec) false (w.forCall tape i).memory i.args) ∧ ({} : Assume).holds Tryz.checked.prog (lone (Frame.enter Tryz.checked.prog 4 i.args .normal) [] (w.forCall tape i)) :=
  ChangeSpec.witness_shaped (enc := enc) (C := Tryz.checked) (os := os) (X := fun w _ => laidMetH Tryz.prog laid3 w) false (World.doorLaid Tryz.prog 400 os) #[.agg #[.slice none 0 0, .slice none 0 0, .int .i64 0], .slice none 0 0, .int .i64 0, .int .i64 0, .int .i64 0, .int .i64 0, .int .i64 0] 8 rfl (World.shaped_of_RefB (by kernel_rfl) (by kernel_rfl)) (by kernel_rfl) (by kernel_rfl) (by kernel_rfl) (door_met os _)
theorem restores_holds : Rows.WireRestoresSaid :=
  OpenClaim.holds_of_wide 4 Tryz.f4 rfl rfl rfl rfl rfl rfl rfl ⟨rfl, rfl, rfl, rfl, rfl⟩ rfl rfl rfl rfl rfl restores_name Tryz.func4 restores_facts restores_inst restores_wrap
    (fun os started H enc _ => lifted os started H enc (s := Rows.wireRestoresSpec) (n := 8) Tryz.func4 restores_noInit restores_plain restores_read rfl rfl
      (fun ds hd => match ds, hd with | [_, _, _, _, _, _, _], _ => rfl) restores_all (restores_witness enc os))
theorem restores_wf : Rows.wireRestoresRow.wfByText (OpenSpec.ofChange Rows.wireRestoresSpec) = true := by kernel_rfl
theorem restores_main : Tryz.pinned.checked.prog.mainIs = some (true, "faf32b471a4046c26054fd80b9544b2851aca4c527019fae6cdd7dbae78c9e5d".toList) := by kernel_rfl
theorem restores_noStand : (Tryz.f4.params.toList.all fun t => !Tryz.prog.wantsStandIn t) = true := by kernel_rfl
theorem restores_goes : false = Rows.wireRestoresRow.goesBy Tryz.prog := by kernel_rfl
theorem restores_card : Rows.WireRestoresCardSaid :=
  Claim7.holds_tied_plain_at .later [] [.data, .data, .data] true (true, "faf32b471a4046c26054fd80b9544b2851aca4c527019fae6cdd7dbae78c9e5d") true
    restores_holds (fun _ h => by cases h) restores_wf (fun _ h => by cases h) wireRestores_row_tie rfl ⟨rfl, rfl⟩ restores_main rfl
    (fun f fn hf hfn => by
      obtain rfl : f = 4 := Option.some.inj (restores_name.symm.trans hf) |>.symm
      obtain rfl : fn = Tryz.f4 := (Option.some.inj (Tryz.func4.symm.trans hfn)).symm
      refine ⟨looks_all, fun j t ht => ?_⟩
      have h3 := List.all_eq_true.1 restores_noStand t (by rw [Array.mem_toList_iff]; exact Array.mem_of_getElem? ht)
      have h4 : Tryz.prog.wantsStandIn t = false := by simpa using h3
      exact h4)
    restores_goes
#print axioms restores_card
end Go.Proofs.YtaphehlgijlfeaaGreatDoor
end
