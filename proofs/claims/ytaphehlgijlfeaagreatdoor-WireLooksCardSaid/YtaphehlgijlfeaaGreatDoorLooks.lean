/- WireLooks: for every input the law returns true and leaves its arguments as they were; the program's variables are laid as its text lays them. -/
import Derived.Test.YtaphehlgijlfeaaGreatDoorFrame
import Derived.Test.YtaphehlgijlfeaaGreatDoorExK
import Derived.Test.YtaphehlgijlfeaaGreatDoorWiK
set_option linter.unusedVariables false
set_option linter.unusedSimpArgs false
section
namespace Go.Proofs.YtaphehlgijlfeaaGreatDoor
open Go Go.ChangeShapes Go.WideShapes Go.ChangeAt Go.RowKit Go.Av Go.Bv
set_option maxRecDepth 100000
theorem lookw_all (xs : List AV) (h : ArgsAV Tryz.prog 8 Tryz.f9.params.toList xs) : ACall Tryz.prog GT 9 xs (.v (.bool true)) := by
  obtain ⟨x0, _, rfl, h0, g0⟩ := h
  obtain ⟨x1, _, rfl, h1, g1⟩ := g0
  obtain ⟨x2, _, rfl, h2, rfl⟩ := g1
  obtain ⟨a0, rfl, w0⟩ := ar_bk h0
  obtain ⟨a1, rfl⟩ := ar_str h1
  obtain ⟨a2, rfl⟩ := ar_int h2
  exact f9 known a0 a1 a2 w0
theorem lookw_facts : joinedFacts Tryz.prog 9 Tryz.f9 Rows.wireLooksSpec Rows.wireLooksRow = true :=
  and_t (and_t (and_t (and_t (and_t (and_t (and_t (and_t (and_t (and_t (and_t (and_t (and_t (and_t (and_t (and_t (and_t (and_t (and_t (and_t (and_t (and_t (and_t (and_t (and_t (and_t (and_t (and_t (and_t (and_t (and_t ((by kernel_rfl)) laidOut) t_maps) (by kernel_rfl)) (by kernel_rfl)) (by kernel_rfl)) t_stops) (by kernel_rfl)) t_knobs) (by kernel_rfl)) (by kernel_rfl)) (by kernel_rfl)) (by kernel_rfl)) (by kernel_rfl)) (by kernel_rfl)) (by kernel_rfl)) (by kernel_rfl)) (by kernel_rfl)) (by kernel_rfl)) (by kernel_rfl)) (by kernel_rfl)) (by kernel_rfl)) t_keys) (by kernel_rfl)) t_heard) t_enter) t_lifted) t_make) (by kernel_rfl)) (by kernel_rfl)) (by kernel_rfl)) (by kernel_rfl)
theorem lookw_name : Tryz.prog.funcNamed "isobar/isobarlaw02.WireLooks" = some 9 := by kernel_rfl
theorem lookw_inst : Tryz.f9.isInstance Tryz.prog Rows.wireLooksRow.origin Rows.wireLooksRow.targs := of_decide_eq_true (by kernel_rfl)
theorem lookw_wrap : Tryz.f9.isWrapper Tryz.prog Rows.wireLooksRow.wrapper Rows.wireLooksRow.mainSum := by unfold Func.isWrapper; first | (rw [if_pos (by decide +kernel)]; kernel_rfl) | (rw [if_neg (by decide +kernel)]; exact ⟨rfl, rfl⟩)
theorem lookw_noInit : Tryz.prog.inits.idxOf? 9 = none := by kernel_rfl
theorem lookw_plain : (Tryz.f9.params.toList.all fun t => plainB Tryz.prog (8 + 1) t) = true := by kernel_rfl
theorem lookw_read : (Tryz.f9.params.toList.all fun t => Tryz.prog.readableRec t && decide (t < Tryz.prog.types.size)) = true := by kernel_rfl
theorem lookw_witness {H : Type} (enc : TypeId × Value → H) (os : Os) : ∃ (w : World) (tape : Tape) (i : Input), w.os = os ∧ (w.forCall tape i).Shaped Tryz.checked.prog ∧ i.vars = [] ∧ Input.okWide Tryz.checked.prog (w.forCall tape i) .any w.heap.size 9 i ∧
      ((Rows.wireLooksSpec.pre enc Tryz.checked.prog Tryz.f9 [] false (w.forCall tape i).memory i.args ∧ laidMetH Tryz.prog laid3 (w.forCall tape i).memory) ∧ sizedMet enc Tryz.checked.prog Tryz.f9 (OpenSpec.ofChange Rows.wireLooksSpec) false (w.forCall tape i).memory i.args) ∧ ({} : Assume).holds Tryz.checked.prog (lone (Frame.enter Tryz.checked.prog 9 i.args .normal) [] (w.forCall tape i)) :=
  ChangeSpec.witness_shaped (enc := enc) (C := Tryz.checked) (os := os) (X := fun w _ => laidMetH Tryz.prog laid3 w) false (World.doorLaid Tryz.prog 400 os) #[.slice none 0 0, .string ByteArray.empty, .int .i64 0] 8 rfl (World.shaped_of_RefB (by kernel_rfl) (by kernel_rfl)) (by kernel_rfl) (by kernel_rfl) (by kernel_rfl) (door_met os _)
theorem lookw_holds : Rows.WireLooksSaid :=
  OpenClaim.holds_of_wide 9 Tryz.f9 rfl rfl rfl rfl rfl rfl rfl ⟨rfl, rfl, rfl, rfl, rfl⟩ rfl rfl rfl rfl rfl lookw_name Tryz.func9 lookw_facts lookw_inst lookw_wrap
    (fun os started H enc _ => lifted os started H enc (s := Rows.wireLooksSpec) (n := 8) Tryz.func9 lookw_noInit lookw_plain lookw_read rfl rfl
      (fun ds hd => match ds, hd with | [_, _, _], _ => rfl) lookw_all (lookw_witness enc os))
theorem lookw_wf : Rows.wireLooksRow.wfByText (OpenSpec.ofChange Rows.wireLooksSpec) = true := by kernel_rfl
theorem lookw_main : Tryz.pinned.checked.prog.mainIs = some (true, "faf32b471a4046c26054fd80b9544b2851aca4c527019fae6cdd7dbae78c9e5d".toList) := by kernel_rfl
theorem lookw_noStand : (Tryz.f9.params.toList.all fun t => !Tryz.prog.wantsStandIn t) = true := by kernel_rfl
theorem lookw_goes : false = Rows.wireLooksRow.goesBy Tryz.prog := by kernel_rfl
theorem lookw_card : Rows.WireLooksCardSaid :=
  Claim7.holds_tied_plain_at .later [] [.data, .data, .data] true (true, "faf32b471a4046c26054fd80b9544b2851aca4c527019fae6cdd7dbae78c9e5d") true
    lookw_holds (fun _ h => by cases h) lookw_wf (fun _ h => by cases h) wireLooks_row_tie rfl ⟨rfl, rfl⟩ lookw_main rfl
    (fun f fn hf hfn => by
      obtain rfl : f = 9 := Option.some.inj (lookw_name.symm.trans hf) |>.symm
      obtain rfl : fn = Tryz.f9 := (Option.some.inj (Tryz.func9.symm.trans hfn)).symm
      refine ⟨looks_all, fun j t ht => ?_⟩
      have h3 := List.all_eq_true.1 lookw_noStand t (by rw [Array.mem_toList_iff]; exact Array.mem_of_getElem? ht)
      have h4 : Tryz.prog.wantsStandIn t = false := by simpa using h3
      exact h4)
    lookw_goes
#print axioms lookw_card
end Go.Proofs.YtaphehlgijlfeaaGreatDoor
end
