/- WireCans: for every input the law returns true and leaves its arguments as they were; the program's variables are laid as its text lays them. -/
import Derived.Test.YtaphehlgijlfeaaGreatDoorFrame
import Derived.Test.YtaphehlgijlfeaaGreatDoorExK
import Derived.Test.YtaphehlgijlfeaaGreatDoorWiG
set_option linter.unusedVariables false
set_option linter.unusedSimpArgs false
section
namespace Go.Proofs.YtaphehlgijlfeaaGreatDoor
open Go Go.ChangeShapes Go.WideShapes Go.ChangeAt Go.RowKit Go.Av Go.Bv
set_option maxRecDepth 100000
theorem cans_all (xs : List AV) (h : ArgsAV Tryz.prog 8 Tryz.f14.params.toList xs) : ACall Tryz.prog GT 14 xs (.v (.bool true)) := by
  obtain ⟨x0, _, rfl, h0, g0⟩ := h
  obtain ⟨x1, _, rfl, h1, g1⟩ := g0
  obtain ⟨x2, _, rfl, h2, rfl⟩ := g1
  obtain ⟨a0, rfl⟩ := ar_cod h0
  obtain ⟨a1, rfl⟩ := ar_ints h1
  obtain ⟨a2, rfl⟩ := ar_strs h2
  exact f14 known a0 a1 a2
theorem cans_facts : joinedFacts Tryz.prog 14 Tryz.f14 Rows.wireCansSpec Rows.wireCansRow = true :=
  and_t (and_t (and_t (and_t (and_t (and_t (and_t (and_t (and_t (and_t (and_t (and_t (and_t (and_t (and_t (and_t (and_t (and_t (and_t (and_t (and_t (and_t (and_t (and_t (and_t (and_t (and_t (and_t (and_t (and_t (and_t ((by kernel_rfl)) laidOut) t_maps) (by kernel_rfl)) (by kernel_rfl)) (by kernel_rfl)) t_stops) (by kernel_rfl)) t_knobs) (by kernel_rfl)) (by kernel_rfl)) (by kernel_rfl)) (by kernel_rfl)) (by kernel_rfl)) (by kernel_rfl)) (by kernel_rfl)) (by kernel_rfl)) (by kernel_rfl)) (by kernel_rfl)) (by kernel_rfl)) (by kernel_rfl)) (by kernel_rfl)) t_keys) (by kernel_rfl)) t_heard) t_enter) t_lifted) t_make) (by kernel_rfl)) (by kernel_rfl)) (by kernel_rfl)) (by kernel_rfl)
theorem cans_name : Tryz.prog.funcNamed "isobar/isobarlaw02.WireCans" = some 14 := by kernel_rfl
theorem cans_inst : Tryz.f14.isInstance Tryz.prog Rows.wireCansRow.origin Rows.wireCansRow.targs := of_decide_eq_true (by kernel_rfl)
theorem cans_wrap : Tryz.f14.isWrapper Tryz.prog Rows.wireCansRow.wrapper Rows.wireCansRow.mainSum := by unfold Func.isWrapper; first | (rw [if_pos (by decide +kernel)]; kernel_rfl) | (rw [if_neg (by decide +kernel)]; exact ⟨rfl, rfl⟩)
theorem cans_noInit : Tryz.prog.inits.idxOf? 14 = none := by kernel_rfl
theorem cans_plain : (Tryz.f14.params.toList.all fun t => plainB Tryz.prog (8 + 1) t) = true := by kernel_rfl
theorem cans_read : (Tryz.f14.params.toList.all fun t => Tryz.prog.readableRec t && decide (t < Tryz.prog.types.size)) = true := by kernel_rfl
theorem cans_witness {H : Type} (enc : TypeId × Value → H) (os : Os) : ∃ (w : World) (tape : Tape) (i : Input), w.os = os ∧ (w.forCall tape i).Shaped Tryz.checked.prog ∧ i.vars = [] ∧ Input.okWide Tryz.checked.prog (w.forCall tape i) .any w.heap.size 14 i ∧
      ((Rows.wireCansSpec.pre enc Tryz.checked.prog Tryz.f14 [] false (w.forCall tape i).memory i.args ∧ laidMetH Tryz.prog laid3 (w.forCall tape i).memory) ∧ sizedMet enc Tryz.checked.prog Tryz.f14 (OpenSpec.ofChange Rows.wireCansSpec) false (w.forCall tape i).memory i.args) ∧ ({} : Assume).holds Tryz.checked.prog (lone (Frame.enter Tryz.checked.prog 14 i.args .normal) [] (w.forCall tape i)) :=
  ChangeSpec.witness_shaped (enc := enc) (C := Tryz.checked) (os := os) (X := fun w _ => laidMetH Tryz.prog laid3 w) false (World.doorLaid Tryz.prog 400 os) #[.agg #[.slice none 0 0, .slice none 0 0, .int .i64 0], .slice none 0 0, .slice none 0 0] 8 rfl (World.shaped_of_RefB (by kernel_rfl) (by kernel_rfl)) (by kernel_rfl) (by kernel_rfl) (by kernel_rfl) (door_met os _)
theorem cans_holds : Rows.WireCansSaid :=
  OpenClaim.holds_of_wide 14 Tryz.f14 rfl rfl rfl rfl rfl rfl rfl ⟨rfl, rfl, rfl, rfl, rfl⟩ rfl rfl rfl rfl rfl cans_name Tryz.func14 cans_facts cans_inst cans_wrap
    (fun os started H enc _ => lifted os started H enc (s := Rows.wireCansSpec) (n := 8) Tryz.func14 cans_noInit cans_plain cans_read rfl rfl
      (fun ds hd => match ds, hd with | [_, _, _], _ => rfl) cans_all (cans_witness enc os))
theorem cans_wf : Rows.wireCansRow.wfByText (OpenSpec.ofChange Rows.wireCansSpec) = true := by kernel_rfl
theorem cans_main : Tryz.pinned.checked.prog.mainIs = some (true, "faf32b471a4046c26054fd80b9544b2851aca4c527019fae6cdd7dbae78c9e5d".toList) := by kernel_rfl
theorem cans_noStand : (Tryz.f14.params.toList.all fun t => !Tryz.prog.wantsStandIn t) = true := by kernel_rfl
theorem cans_goes : false = Rows.wireCansRow.goesBy Tryz.prog := by kernel_rfl
theorem cans_card : Rows.WireCansCardSaid :=
  Claim7.holds_tied_plain_at .later [] [.data, .data, .data] true (true, "faf32b471a4046c26054fd80b9544b2851aca4c527019fae6cdd7dbae78c9e5d") true
    cans_holds (fun _ h => by cases h) cans_wf (fun _ h => by cases h) wireCans_row_tie rfl ⟨rfl, rfl⟩ cans_main rfl
    (fun f fn hf hfn => by
      obtain rfl : f = 14 := Option.some.inj (cans_name.symm.trans hf) |>.symm
      obtain rfl : fn = Tryz.f14 := (Option.some.inj (Tryz.func14.symm.trans hfn)).symm
      refine ⟨looks_all, fun j t ht => ?_⟩
      have h3 := List.all_eq_true.1 cans_noStand t (by rw [Array.mem_toList_iff]; exact Array.mem_of_getElem? ht)
      have h4 : Tryz.prog.wantsStandIn t = false := by simpa using h3
      exact h4)
    cans_goes
#print axioms cans_card
end Go.Proofs.YtaphehlgijlfeaaGreatDoor
end
