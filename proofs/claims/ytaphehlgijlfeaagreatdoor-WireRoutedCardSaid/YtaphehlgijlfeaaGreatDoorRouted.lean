
import Derived.Test.YtaphehlgijlfeaaGreatDoorFrame
import Derived.Test.YtaphehlgijlfeaaGreatDoorExK
import Derived.Test.YtaphehlgijlfeaaGreatDoorWiQ6
set_option linter.unusedVariables false
set_option linter.unusedSimpArgs false
section
namespace Go.Proofs.YtaphehlgijlfeaaGreatDoor
open Go Go.ChangeShapes Go.WideShapes Go.ChangeAt Go.RowKit Go.Av Go.Bv
set_option maxRecDepth 100000
theorem zxB (xs : List AV) (h : xA Tryz.prog 8 Tryz.f11.params.toList xs) : ACall Tryz.prog GT 11 xs (.v (.bool true)) := by
 obtain ⟨x0, _, rfl, h0, g0⟩ := h
 obtain ⟨x1, _, rfl, h1, g1⟩ := g0
 obtain ⟨x2, _, rfl, h2, g2⟩ := g1
 obtain ⟨x3, _, rfl, h3, g3⟩ := g2
 obtain ⟨x4, _, rfl, h4, g4⟩ := g3
 obtain ⟨x5, _, rfl, h5, rfl⟩ := g4
 obtain ⟨a0, rfl⟩ := zzy h0
 obtain ⟨a1, rfl⟩ := zuF h1
 obtain ⟨a2, rfl⟩ := zuF h2
 obtain ⟨a3, rfl⟩ := zuF h3
 obtain ⟨a4, rfl⟩ := zuF h4
 obtain ⟨a5, rfl⟩ := zAa h5
 exact f11 known a0 a1 a2 a3 a4 a5
theorem zwv : joinedFacts Tryz.prog 11 Tryz.f11 Rows.wireRoutedSpec Rows.wireRoutedRow = true :=
 zF (zF (zF (zF (zF (zF (zF (zF (zF (zF (zF (zF (zF (zF (zF (zF (zF (zF (zF (zF (zF (zF (zF (zF (zF (zF (zF (zF (zF (zF (zF ((by kernel_rfl)) laidOut) zcz) (by kernel_rfl)) (by kernel_rfl)) (by kernel_rfl)) za6) (by kernel_rfl)) za8) (by kernel_rfl)) (by kernel_rfl)) (by kernel_rfl)) (by kernel_rfl)) (by kernel_rfl)) (by kernel_rfl)) (by kernel_rfl)) (by kernel_rfl)) (by kernel_rfl)) (by kernel_rfl)) (by kernel_rfl)) (by kernel_rfl)) (by kernel_rfl)) zcy) (by kernel_rfl)) zba) zaT) t_lifted) zcC) (by kernel_rfl)) (by kernel_rfl)) (by kernel_rfl)) (by kernel_rfl)
theorem routed_name : Tryz.prog.funcNamed "isobar/isobarlaw02.WireRouted" = some 11 := by kernel_rfl
theorem zwT : Tryz.f11.isInstance Tryz.prog Rows.wireRoutedRow.origin Rows.wireRoutedRow.targs := of_decide_eq_true (by kernel_rfl)
theorem zwN : Tryz.f11.isWrapper Tryz.prog Rows.wireRoutedRow.wrapper Rows.wireRoutedRow.mainSum := by unfold Func.isWrapper; first | (rw [if_pos (by decide +kernel)]; kernel_rfl) | (rw [if_neg (by decide +kernel)]; exact ⟨rfl, rfl⟩)
theorem zwg : Tryz.prog.inits.idxOf? 11 = none := by kernel_rfl
theorem zwA : (Tryz.f11.params.toList.all fun t => vH Tryz.prog (8 + 1) t) = true := by kernel_rfl
theorem zwZ : (Tryz.f11.params.toList.all fun t => Tryz.prog.readableRec t && decide (t < Tryz.prog.types.size)) = true := by kernel_rfl
theorem zv9 {H : Type} (enc : TypeId × Value -> H) (os : Os) : ∃ (w : World) (tape : Tape) (i : Input), w.os = os /\ (w.forCall tape i).Shaped Tryz.checked.prog /\ i.vars = [] /\ Input.okWide Tryz.checked.prog (w.forCall tape i) .any w.heap.size 11 i /\
      ((Rows.wireRoutedSpec.pre enc Tryz.checked.prog Tryz.f11 [] false (w.forCall tape i).memory i.args /\ laidMetH Tryz.prog laid3 (w.forCall tape i).memory) /\ sizedMet enc Tryz.checked.prog Tryz.f11 (OpenSpec.ofChange Rows.wireRoutedSpec) false (w.forCall tape i).memory i.args) /\ ({} : Assume).holds Tryz.checked.prog (lone (Frame.enter Tryz.checked.prog 11 i.args .normal) [] (w.forCall tape i)) :=
  ChangeSpec.witness_shaped (enc := enc) (C := Tryz.checked) (os := os) (X := fun w _ => laidMetH Tryz.prog laid3 w) false (World.doorLaid Tryz.prog 400 os) #[.agg #[.int .i64 0, .slice none 0 0], .int .i64 0, .int .i64 0, .int .i64 0, .int .i64 0, .slice none 0 0] 8 rfl (World.shaped_of_RefB (by kernel_rfl) (by kernel_rfl)) (by kernel_rfl) (by kernel_rfl) (by kernel_rfl) (door_met os _)
theorem zwG : Rows.WireRoutedSaid :=
 OpenClaim.holds_of_wide 11 Tryz.f11 rfl rfl rfl rfl rfl rfl rfl ⟨rfl, rfl, rfl, rfl, rfl⟩ rfl rfl rfl rfl rfl routed_name Tryz.func11 zwv zwT zwN
  (fun os started H enc _ => lifted os started H enc (s := Rows.wireRoutedSpec) (n := 8) Tryz.func11 zwg zwA zwZ rfl rfl
   (fun ds hd => match ds, hd with | [_, _, _, _, _, _], _ => rfl) zxB (zv9 enc os))
theorem zyc : Rows.wireRoutedRow.wfByText (OpenSpec.ofChange Rows.wireRoutedSpec) = true := by kernel_rfl
theorem routed_main : Tryz.pinned.checked.prog.mainIs = some (true, "faf32b471a4046c26054fd80b9544b2851aca4c527019fae6cdd7dbae78c9e5d".toList) := by kernel_rfl
theorem zv2 : (Tryz.f11.params.toList.all fun t => !Tryz.prog.wantsStandIn t) = true := by kernel_rfl
theorem zwQ : false = Rows.wireRoutedRow.goesBy Tryz.prog := by kernel_rfl
theorem routed_card : Rows.WireRoutedCardSaid :=
 Claim7.holds_tied_plain_at .later [] [.data, .data, .data] true (true, "faf32b471a4046c26054fd80b9544b2851aca4c527019fae6cdd7dbae78c9e5d") true
  zwG (fun _ h => by cases h) zyc (fun _ h => by cases h) wireRouted_row_tie rfl ⟨rfl, rfl⟩ routed_main rfl
  (fun f fn hf hfn => by
   obtain rfl : f = 11 := Option.some.inj (routed_name.symm.trans hf) |>.symm
   obtain rfl : fn = Tryz.f11 := (Option.some.inj (Tryz.func11.symm.trans hfn)).symm
   refine ⟨yY, fun j t ht => ?_⟩
   have h3 := List.all_eq_true.1 zv2 t (by rw [Array.mem_toList_iff]; exact Array.mem_of_getElem? ht)
   have h4 : Tryz.prog.wantsStandIn t = false := by simpa using h3
   exact h4)
  zwQ
#print axioms routed_card
end Go.Proofs.YtaphehlgijlfeaaGreatDoor
end
