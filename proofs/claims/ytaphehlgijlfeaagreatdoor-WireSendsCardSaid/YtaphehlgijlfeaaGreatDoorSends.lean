/- WireSends: for every input the law returns true and leaves its arguments as they were; the program's variables are laid as its text lays them. -/
import Derived.Test.YtaphehlgijlfeaaGreatDoorFrame
import Derived.Test.YtaphehlgijlfeaaGreatDoorExK
import Derived.Test.YtaphehlgijlfeaaGreatDoorWiD
set_option linter.unusedVariables false
set_option linter.unusedSimpArgs false
section
namespace Go.Proofs.YtaphehlgijlfeaaGreatDoor
open Go Go.ChangeShapes Go.WideShapes Go.ChangeAt Go.RowKit Go.Av Go.Bv
set_option maxRecDepth 100000
theorem sends_all (xs : List AV) (h : ArgsAV Tryz.prog 8 Tryz.f13.params.toList xs) : ACall Tryz.prog GT 13 xs (.v (.bool true)) := by
  obtain ⟨x0, _, rfl, h0, g0⟩ := h
  obtain ⟨x1, _, rfl, h1, rfl⟩ := g0
  obtain ⟨a0, rfl⟩ := ar_cod h0
  obtain ⟨a1, rfl⟩ := ar_ints h1
  exact f13 known a0 a1
theorem sends_facts : joinedFacts Tryz.prog 13 Tryz.f13 Rows.wireSendsSpec Rows.wireSendsRow = true :=
  and_t (and_t (and_t (and_t (and_t (and_t (and_t (and_t (and_t (and_t (and_t (and_t (and_t (and_t (and_t (and_t (and_t (and_t (and_t (and_t (and_t (and_t (and_t (and_t (and_t (and_t (and_t (and_t (and_t (and_t (and_t ((by kernel_rfl)) laidOut) t_maps) (by kernel_rfl)) (by kernel_rfl)) (by kernel_rfl)) t_stops) (by kernel_rfl)) t_knobs) (by kernel_rfl)) (by kernel_rfl)) (by kernel_rfl)) (by kernel_rfl)) (by kernel_rfl)) (by kernel_rfl)) (by kernel_rfl)) (by kernel_rfl)) (by kernel_rfl)) (by kernel_rfl)) (by kernel_rfl)) (by kernel_rfl)) (by kernel_rfl)) t_keys) (by kernel_rfl)) t_heard) t_enter) t_lifted) t_make) (by kernel_rfl)) (by kernel_rfl)) (by kernel_rfl)) (by kernel_rfl)
theorem sends_name : Tryz.prog.funcNamed "isobar/isobarlaw02.WireSends" = some 13 := by kernel_rfl
theorem sends_inst : Tryz.f13.isInstance Tryz.prog Rows.wireSendsRow.origin Rows.wireSendsRow.targs := of_decide_eq_true (by kernel_rfl)
theorem sends_wrap : Tryz.f13.isWrapper Tryz.prog Rows.wireSendsRow.wrapper Rows.wireSendsRow.mainSum := by unfold Func.isWrapper; first | (rw [if_pos (by decide +kernel)]; kernel_rfl) | (rw [if_neg (by decide +kernel)]; exact ⟨rfl, rfl⟩)
theorem sends_noInit : Tryz.prog.inits.idxOf? 13 = none := by kernel_rfl
theorem sends_plain : (Tryz.f13.params.toList.all fun t => plainB Tryz.prog (8 + 1) t) = true := by kernel_rfl
theorem sends_read : (Tryz.f13.params.toList.all fun t => Tryz.prog.readableRec t && decide (t < Tryz.prog.types.size)) = true := by kernel_rfl
theorem sends_witness {H : Type} (enc : TypeId × Value → H) (os : Os) : ∃ (w : World) (tape : Tape) (i : Input), w.os = os ∧ (w.forCall tape i).Shaped Tryz.checked.prog ∧ i.vars = [] ∧ Input.okWide Tryz.checked.prog (w.forCall tape i) .any w.heap.size 13 i ∧
      ((Rows.wireSendsSpec.pre enc Tryz.checked.prog Tryz.f13 [] false (w.forCall tape i).memory i.args ∧ laidMetH Tryz.prog laid3 (w.forCall tape i).memory) ∧ sizedMet enc Tryz.checked.prog Tryz.f13 (OpenSpec.ofChange Rows.wireSendsSpec) false (w.forCall tape i).memory i.args) ∧ ({} : Assume).holds Tryz.checked.prog (lone (Frame.enter Tryz.checked.prog 13 i.args .normal) [] (w.forCall tape i)) :=
  ChangeSpec.witness_shaped (enc := enc) (C := Tryz.checked) (os := os) (X := fun w _ => laidMetH Tryz.prog laid3 w) false (World.doorLaid Tryz.prog 400 os) #[.agg #[.slice none 0 0, .slice none 0 0, .int .i64 0], .slice none 0 0] 8 rfl (World.shaped_of_RefB (by kernel_rfl) (by kernel_rfl)) (by kernel_rfl) (by kernel_rfl) (by kernel_rfl) (door_met os _)
theorem sends_holds : Rows.WireSendsSaid :=
  OpenClaim.holds_of_wide 13 Tryz.f13 rfl rfl rfl rfl rfl rfl rfl ⟨rfl, rfl, rfl, rfl, rfl⟩ rfl rfl rfl rfl rfl sends_name Tryz.func13 sends_facts sends_inst sends_wrap
    (fun os started H enc _ => lifted os started H enc (s := Rows.wireSendsSpec) (n := 8) Tryz.func13 sends_noInit sends_plain sends_read rfl rfl
      (fun ds hd => match ds, hd with | [_, _], _ => rfl) sends_all (sends_witness enc os))
theorem sends_wf : Rows.wireSendsRow.wfByText (OpenSpec.ofChange Rows.wireSendsSpec) = true := by kernel_rfl
theorem sends_main : Tryz.pinned.checked.prog.mainIs = some (true, "faf32b471a4046c26054fd80b9544b2851aca4c527019fae6cdd7dbae78c9e5d".toList) := by kernel_rfl
theorem sends_noStand : (Tryz.f13.params.toList.all fun t => !Tryz.prog.wantsStandIn t) = true := by kernel_rfl
theorem sends_goes : false = Rows.wireSendsRow.goesBy Tryz.prog := by kernel_rfl
theorem sends_card : Rows.WireSendsCardSaid :=
  Claim7.holds_tied_plain_at .later [] [.data, .data, .data] true (true, "faf32b471a4046c26054fd80b9544b2851aca4c527019fae6cdd7dbae78c9e5d") true
    sends_holds (fun _ h => by cases h) sends_wf (fun _ h => by cases h) wireSends_row_tie rfl ⟨rfl, rfl⟩ sends_main rfl
    (fun f fn hf hfn => by
      obtain rfl : f = 13 := Option.some.inj (sends_name.symm.trans hf) |>.symm
      obtain rfl : fn = Tryz.f13 := (Option.some.inj (Tryz.func13.symm.trans hfn)).symm
      refine ⟨looks_all, fun j t ht => ?_⟩
      have h3 := List.all_eq_true.1 sends_noStand t (by rw [Array.mem_toList_iff]; exact Array.mem_of_getElem? ht)
      have h4 : Tryz.prog.wantsStandIn t = false := by simpa using h3
      exact h4)
    sends_goes
#print axioms sends_card
end Go.Proofs.YtaphehlgijlfeaaGreatDoor
end
