
import Derived.Test.YtaphehlgijlfeaaGreatDoorFrame
import Derived.Test.YtaphehlgijlfeaaGreatDoorExK
import Derived.Test.YtaphehlgijlfeaaGreatDoorWiX5
set_option linter.unusedVariables false
set_option linter.unusedSimpArgs false
section
namespace Go.Proofs.YtaphehlgijlfeaaGreatDoor
open Go Go.ChangeShapes Go.WideShapes Go.ChangeAt Go.RowKit Go.Av Go.Bv
set_option maxRecDepth 100000
theorem zCw (xs : List AV) (h : xA Tryz.prog 8 Tryz.f15.params.toList xs) : ACall Tryz.prog GT 15 xs (.v (.bool true)) := by
 obtain ⟨x0, _, rfl, h0, g0⟩ := h
 obtain ⟨x1, _, rfl, h1, g1⟩ := g0
 obtain ⟨x2, _, rfl, h2, rfl⟩ := g1
 obtain ⟨a0, rfl⟩ := zdQ h0
 obtain ⟨a1, rfl⟩ := zj1 h1
 obtain ⟨a2, rfl⟩ := zvR h2
 exact f15 known a0 a1 a2
theorem zzY : joinedFacts Tryz.prog 15 Tryz.f15 Rows.wireTrueSpec Rows.wireTrueRow = true :=
 zF (zF (zF (zF (zF (zF (zF (zF (zF (zF (zF (zF (zF (zF (zF (zF (zF (zF (zF (zF (zF (zF (zF (zF (zF (zF (zF (zF (zF (zF (zF ((by kernel_rfl)) laidOut) zcz) (by kernel_rfl)) (by kernel_rfl)) (by kernel_rfl)) za6) (by kernel_rfl)) za8) (by kernel_rfl)) (by kernel_rfl)) (by kernel_rfl)) (by kernel_rfl)) (by kernel_rfl)) (by kernel_rfl)) (by kernel_rfl)) (by kernel_rfl)) (by kernel_rfl)) (by kernel_rfl)) (by kernel_rfl)) (by kernel_rfl)) (by kernel_rfl)) zcy) (by kernel_rfl)) zba) zaT) t_lifted) zcC) (by kernel_rfl)) (by kernel_rfl)) (by kernel_rfl)) (by kernel_rfl)
theorem true_name : Tryz.prog.funcNamed "isobar/isobarlaw02.WireTrue" = some 15 := by kernel_rfl
theorem zA1 : Tryz.f15.isInstance Tryz.prog Rows.wireTrueRow.origin Rows.wireTrueRow.targs := of_decide_eq_true (by kernel_rfl)
theorem zBe : Tryz.f15.isWrapper Tryz.prog Rows.wireTrueRow.wrapper Rows.wireTrueRow.mainSum := by unfold Func.isWrapper; first | (rw [if_pos (by decide +kernel)]; kernel_rfl) | (rw [if_neg (by decide +kernel)]; exact ⟨rfl, rfl⟩)
theorem zyV : Tryz.prog.inits.idxOf? 15 = none := by kernel_rfl
theorem zzw : (Tryz.f15.params.toList.all fun t => vH Tryz.prog (8 + 1) t) = true := by kernel_rfl
theorem zBh : (Tryz.f15.params.toList.all fun t => Tryz.prog.readableRec t && decide (t < Tryz.prog.types.size)) = true := by kernel_rfl
theorem zyw {H : Type} (enc : TypeId × Value -> H) (os : Os) : ∃ (w : World) (tape : Tape) (i : Input), w.os = os /\ (w.forCall tape i).Shaped Tryz.checked.prog /\ i.vars = [] /\ Input.okWide Tryz.checked.prog (w.forCall tape i) .any w.heap.size 15 i /\
      ((Rows.wireTrueSpec.pre enc Tryz.checked.prog Tryz.f15 [] false (w.forCall tape i).memory i.args /\ laidMetH Tryz.prog laid3 (w.forCall tape i).memory) /\ sizedMet enc Tryz.checked.prog Tryz.f15 (OpenSpec.ofChange Rows.wireTrueSpec) false (w.forCall tape i).memory i.args) /\ ({} : Assume).holds Tryz.checked.prog (lone (Frame.enter Tryz.checked.prog 15 i.args .normal) [] (w.forCall tape i)) :=
  ChangeSpec.witness_shaped (enc := enc) (C := Tryz.checked) (os := os) (X := fun w _ => laidMetH Tryz.prog laid3 w) false (World.doorLaid Tryz.prog 400 os) #[.agg #[.slice none 0 0, .slice none 0 0, .int .i64 0], .slice none 0 0, .slice none 0 0] 8 rfl (World.shaped_of_RefB (by kernel_rfl) (by kernel_rfl)) (by kernel_rfl) (by kernel_rfl) (by kernel_rfl) (door_met os _)
theorem zzL : Rows.WireTrueSaid :=
 OpenClaim.holds_of_wide 15 Tryz.f15 rfl rfl rfl rfl rfl rfl rfl ⟨rfl, rfl, rfl, rfl, rfl⟩ rfl rfl rfl rfl rfl true_name Tryz.func15 zzY zA1 zBe
  (fun os started H enc _ => lifted os started H enc (s := Rows.wireTrueSpec) (n := 8) Tryz.func15 zyV zzw zBh rfl rfl
   (fun ds hd => match ds, hd with | [_, _, _], _ => rfl) zCw (zyw enc os))
theorem zCQ : Rows.wireTrueRow.wfByText (OpenSpec.ofChange Rows.wireTrueSpec) = true := by kernel_rfl
theorem true_main : Tryz.pinned.checked.prog.mainIs = some (true, "faf32b471a4046c26054fd80b9544b2851aca4c527019fae6cdd7dbae78c9e5d".toList) := by kernel_rfl
theorem zyc : (Tryz.f15.params.toList.all fun t => !Tryz.prog.wantsStandIn t) = true := by kernel_rfl
theorem zBr : false = Rows.wireTrueRow.goesBy Tryz.prog := by kernel_rfl
theorem true_card : Rows.WireTrueCardSaid :=
 Claim7.holds_tied_plain_at .later [] [.data, .data, .data] true (true, "faf32b471a4046c26054fd80b9544b2851aca4c527019fae6cdd7dbae78c9e5d") true
  zzL (fun _ h => by cases h) zCQ (fun _ h => by cases h) wireTrue_row_tie rfl ⟨rfl, rfl⟩ true_main rfl
  (fun f fn hf hfn => by
   obtain rfl : f = 15 := Option.some.inj (true_name.symm.trans hf) |>.symm
   obtain rfl : fn = Tryz.f15 := (Option.some.inj (Tryz.func15.symm.trans hfn)).symm
   refine ⟨yY, fun j t ht => ?_⟩
   have h3 := List.all_eq_true.1 zyc t (by rw [Array.mem_toList_iff]; exact Array.mem_of_getElem? ht)
   have h4 : Tryz.prog.wantsStandIn t = false := by simpa using h3
   exact h4)
  zBr
#print axioms true_card
end Go.Proofs.YtaphehlgijlfeaaGreatDoor
end
