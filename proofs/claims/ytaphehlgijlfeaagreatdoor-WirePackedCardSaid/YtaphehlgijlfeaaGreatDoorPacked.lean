
import Derived.Test.YtaphehlgijlfeaaGreatDoorFrame
import Derived.Test.YtaphehlgijlfeaaGreatDoorExK
import Derived.Test.YtaphehlgijlfeaaGreatDoorWiP8
set_option linter.unusedVariables false
set_option linter.unusedSimpArgs false
section
namespace Go.Proofs.YtaphehlgijlfeaaGreatDoor
open Go Go.ChangeShapes Go.WideShapes Go.ChangeAt Go.RowKit Go.Av Go.Bv
set_option maxRecDepth 100000
theorem zCe (xs : List AV) (h : xA Tryz.prog 8 Tryz.f17.params.toList xs) : ACall Tryz.prog GT 17 xs (.v (.bool true)) := by
 obtain ⟨x0, _, rfl, h0, g0⟩ := h
 obtain ⟨x1, _, rfl, h1, g1⟩ := g0
 obtain ⟨x2, _, rfl, h2, g2⟩ := g1
 obtain ⟨x3, _, rfl, h3, rfl⟩ := g2
 obtain ⟨a0, rfl⟩ := zdQ h0
 obtain ⟨a1, rfl, w1⟩ := zAX h1
 obtain ⟨a2, rfl⟩ := zvP h2
 obtain ⟨a3, rfl⟩ := zyS h3
 exact f17 known a0 a1 a2 a3 w1
theorem zB4 : joinedFacts Tryz.prog 17 Tryz.f17 Rows.wirePackedSpec Rows.wirePackedRow = true :=
 zF (zF (zF (zF (zF (zF (zF (zF (zF (zF (zF (zF (zF (zF (zF (zF (zF (zF (zF (zF (zF (zF (zF (zF (zF (zF (zF (zF (zF (zF (zF ((by kernel_rfl)) laidOut) zcz) (by kernel_rfl)) (by kernel_rfl)) (by kernel_rfl)) za6) (by kernel_rfl)) za8) (by kernel_rfl)) (by kernel_rfl)) (by kernel_rfl)) (by kernel_rfl)) (by kernel_rfl)) (by kernel_rfl)) (by kernel_rfl)) (by kernel_rfl)) (by kernel_rfl)) (by kernel_rfl)) (by kernel_rfl)) (by kernel_rfl)) (by kernel_rfl)) zcy) (by kernel_rfl)) zba) zaT) t_lifted) zcC) (by kernel_rfl)) (by kernel_rfl)) (by kernel_rfl)) (by kernel_rfl)
theorem packed_name : Tryz.prog.funcNamed "isobar/isobarlaw02.WirePacked" = some 17 := by kernel_rfl
theorem zCd : Tryz.f17.isInstance Tryz.prog Rows.wirePackedRow.origin Rows.wirePackedRow.targs := of_decide_eq_true (by kernel_rfl)
theorem zB8 : Tryz.f17.isWrapper Tryz.prog Rows.wirePackedRow.wrapper Rows.wirePackedRow.mainSum := by unfold Func.isWrapper; first | (rw [if_pos (by decide +kernel)]; kernel_rfl) | (rw [if_neg (by decide +kernel)]; exact ⟨rfl, rfl⟩)
theorem zB3 : Tryz.prog.inits.idxOf? 17 = none := by kernel_rfl
theorem zB7 : (Tryz.f17.params.toList.all fun t => vH Tryz.prog (8 + 1) t) = true := by kernel_rfl
theorem zCc : (Tryz.f17.params.toList.all fun t => Tryz.prog.readableRec t && decide (t < Tryz.prog.types.size)) = true := by kernel_rfl
theorem zB1 {H : Type} (enc : TypeId × Value -> H) (os : Os) : ∃ (w : World) (tape : Tape) (i : Input), w.os = os /\ (w.forCall tape i).Shaped Tryz.checked.prog /\ i.vars = [] /\ Input.okWide Tryz.checked.prog (w.forCall tape i) .any w.heap.size 17 i /\
      ((Rows.wirePackedSpec.pre enc Tryz.checked.prog Tryz.f17 [] false (w.forCall tape i).memory i.args /\ laidMetH Tryz.prog laid3 (w.forCall tape i).memory) /\ sizedMet enc Tryz.checked.prog Tryz.f17 (OpenSpec.ofChange Rows.wirePackedSpec) false (w.forCall tape i).memory i.args) /\ ({} : Assume).holds Tryz.checked.prog (lone (Frame.enter Tryz.checked.prog 17 i.args .normal) [] (w.forCall tape i)) :=
  ChangeSpec.witness_shaped (enc := enc) (C := Tryz.checked) (os := os) (X := fun w _ => laidMetH Tryz.prog laid3 w) false (World.doorLaid Tryz.prog 400 os) #[.agg #[.slice none 0 0, .slice none 0 0, .int .i64 0], .slice none 0 0, .slice none 0 0, .slice none 0 0] 8 rfl (World.shaped_of_RefB (by kernel_rfl) (by kernel_rfl)) (by kernel_rfl) (by kernel_rfl) (by kernel_rfl) (door_met os _)
theorem zB5 : Rows.WirePackedSaid :=
 OpenClaim.holds_of_wide 17 Tryz.f17 rfl rfl rfl rfl rfl rfl rfl ⟨rfl, rfl, rfl, rfl, rfl⟩ rfl rfl rfl rfl rfl packed_name Tryz.func17 zB4 zCd zB8
  (fun os started H enc _ => lifted os started H enc (s := Rows.wirePackedSpec) (n := 8) Tryz.func17 zB3 zB7 zCc rfl rfl
   (fun ds hd => match ds, hd with | [_, _, _, _], _ => rfl) zCe (zB1 enc os))
theorem zCj : Rows.wirePackedRow.wfByText (OpenSpec.ofChange Rows.wirePackedSpec) = true := by kernel_rfl
theorem packed_main : Tryz.pinned.checked.prog.mainIs = some (true, "faf32b471a4046c26054fd80b9544b2851aca4c527019fae6cdd7dbae78c9e5d".toList) := by kernel_rfl
theorem zB2 : (Tryz.f17.params.toList.all fun t => !Tryz.prog.wantsStandIn t) = true := by kernel_rfl
theorem zCb : false = Rows.wirePackedRow.goesBy Tryz.prog := by kernel_rfl
theorem packed_card : Rows.WirePackedCardSaid :=
 Claim7.holds_tied_plain_at .later [] [.data, .data, .data] true (true, "faf32b471a4046c26054fd80b9544b2851aca4c527019fae6cdd7dbae78c9e5d") true
  zB5 (fun _ h => by cases h) zCj (fun _ h => by cases h) wirePacked_row_tie rfl ⟨rfl, rfl⟩ packed_main rfl
  (fun f fn hf hfn => by
   obtain rfl : f = 17 := Option.some.inj (packed_name.symm.trans hf) |>.symm
   obtain rfl : fn = Tryz.f17 := (Option.some.inj (Tryz.func17.symm.trans hfn)).symm
   refine ⟨yY, fun j t ht => ?_⟩
   have h3 := List.all_eq_true.1 zB2 t (by rw [Array.mem_toList_iff]; exact Array.mem_of_getElem? ht)
   have h4 : Tryz.prog.wantsStandIn t = false := by simpa using h3
   exact h4)
  zCb
#print axioms packed_card
end Go.Proofs.YtaphehlgijlfeaaGreatDoor
end
