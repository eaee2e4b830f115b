
import Derived.Test.YtaphehlgijlfeaaGreatDoorFrame
import Derived.Test.YtaphehlgijlfeaaGreatDoorExK
import Derived.Test.YtaphehlgijlfeaaGreatDoorWiA2
set_option linter.unusedVariables false
set_option linter.unusedSimpArgs false
section
namespace Go.Proofs.YtaphehlgijlfeaaGreatDoor
open Go Go.ChangeShapes Go.WideShapes Go.ChangeAt Go.RowKit Go.Av Go.Bv
set_option maxRecDepth 100000
theorem zj6 (xs : List AV) (h : xA Tryz.prog 8 Tryz.f7.params.toList xs) : ACall Tryz.prog GT 7 xs (.v (.bool true)) := by
 obtain ⟨x0, _, rfl, h0, g0⟩ := h
 obtain ⟨x1, _, rfl, h1, rfl⟩ := g0
 obtain ⟨a0, rfl⟩ := zdQ h0
 obtain ⟨a1, rfl⟩ := zj1 h1
 exact f7 known a0 a1
theorem zg6 : joinedFacts Tryz.prog 7 Tryz.f7 Rows.wireDoubtsSpec Rows.wireDoubtsRow = true :=
 zF (zF (zF (zF (zF (zF (zF (zF (zF (zF (zF (zF (zF (zF (zF (zF (zF (zF (zF (zF (zF (zF (zF (zF (zF (zF (zF (zF (zF (zF (zF ((by kernel_rfl)) laidOut) zcz) (by kernel_rfl)) (by kernel_rfl)) (by kernel_rfl)) za6) (by kernel_rfl)) za8) (by kernel_rfl)) (by kernel_rfl)) (by kernel_rfl)) (by kernel_rfl)) (by kernel_rfl)) (by kernel_rfl)) (by kernel_rfl)) (by kernel_rfl)) (by kernel_rfl)) (by kernel_rfl)) (by kernel_rfl)) (by kernel_rfl)) (by kernel_rfl)) zcy) (by kernel_rfl)) zba) zaT) t_lifted) zcC) (by kernel_rfl)) (by kernel_rfl)) (by kernel_rfl)) (by kernel_rfl)
theorem doubts_name : Tryz.prog.funcNamed "isobar/isobarlaw02.WireDoubts" = some 7 := by kernel_rfl
theorem ziE : Tryz.f7.isInstance Tryz.prog Rows.wireDoubtsRow.origin Rows.wireDoubtsRow.targs := of_decide_eq_true (by kernel_rfl)
theorem zjD : Tryz.f7.isWrapper Tryz.prog Rows.wireDoubtsRow.wrapper Rows.wireDoubtsRow.mainSum := by unfold Func.isWrapper; first | (rw [if_pos (by decide +kernel)]; kernel_rfl) | (rw [if_neg (by decide +kernel)]; exact ⟨rfl, rfl⟩)
theorem zge : Tryz.prog.inits.idxOf? 7 = none := by kernel_rfl
theorem zih : (Tryz.f7.params.toList.all fun t => vH Tryz.prog (8 + 1) t) = true := by kernel_rfl
theorem ziV : (Tryz.f7.params.toList.all fun t => Tryz.prog.readableRec t && decide (t < Tryz.prog.types.size)) = true := by kernel_rfl
theorem ze8 {H : Type} (enc : TypeId × Value -> H) (os : Os) : ∃ (w : World) (tape : Tape) (i : Input), w.os = os /\ (w.forCall tape i).Shaped Tryz.checked.prog /\ i.vars = [] /\ Input.okWide Tryz.checked.prog (w.forCall tape i) .any w.heap.size 7 i /\
      ((Rows.wireDoubtsSpec.pre enc Tryz.checked.prog Tryz.f7 [] false (w.forCall tape i).memory i.args /\ laidMetH Tryz.prog laid3 (w.forCall tape i).memory) /\ sizedMet enc Tryz.checked.prog Tryz.f7 (OpenSpec.ofChange Rows.wireDoubtsSpec) false (w.forCall tape i).memory i.args) /\ ({} : Assume).holds Tryz.checked.prog (lone (Frame.enter Tryz.checked.prog 7 i.args .normal) [] (w.forCall tape i)) :=
  ChangeSpec.witness_shaped (enc := enc) (C := Tryz.checked) (os := os) (X := fun w _ => laidMetH Tryz.prog laid3 w) false (World.doorLaid Tryz.prog 400 os) #[.agg #[.slice none 0 0, .slice none 0 0, .int .i64 0], .slice none 0 0] 8 rfl (World.shaped_of_RefB (by kernel_rfl) (by kernel_rfl)) (by kernel_rfl) (by kernel_rfl) (by kernel_rfl) (door_met os _)
theorem zhr : Rows.WireDoubtsSaid :=
 OpenClaim.holds_of_wide 7 Tryz.f7 rfl rfl rfl rfl rfl rfl rfl ⟨rfl, rfl, rfl, rfl, rfl⟩ rfl rfl rfl rfl rfl doubts_name Tryz.func7 zg6 ziE zjD
  (fun os started H enc _ => lifted os started H enc (s := Rows.wireDoubtsSpec) (n := 8) Tryz.func7 zge zih ziV rfl rfl
   (fun ds hd => match ds, hd with | [_, _], _ => rfl) zj6 (ze8 enc os))
theorem zmn : Rows.wireDoubtsRow.wfByText (OpenSpec.ofChange Rows.wireDoubtsSpec) = true := by kernel_rfl
theorem doubts_main : Tryz.pinned.checked.prog.mainIs = some (true, "faf32b471a4046c26054fd80b9544b2851aca4c527019fae6cdd7dbae78c9e5d".toList) := by kernel_rfl
theorem zfM : (Tryz.f7.params.toList.all fun t => !Tryz.prog.wantsStandIn t) = true := by kernel_rfl
theorem ziS : false = Rows.wireDoubtsRow.goesBy Tryz.prog := by kernel_rfl
theorem doubts_card : Rows.WireDoubtsCardSaid :=
 Claim7.holds_tied_plain_at .later [] [.data, .data, .data] true (true, "faf32b471a4046c26054fd80b9544b2851aca4c527019fae6cdd7dbae78c9e5d") true
  zhr (fun _ h => by cases h) zmn (fun _ h => by cases h) wireDoubts_row_tie rfl ⟨rfl, rfl⟩ doubts_main rfl
  (fun f fn hf hfn => by
   obtain rfl : f = 7 := Option.some.inj (doubts_name.symm.trans hf) |>.symm
   obtain rfl : fn = Tryz.f7 := (Option.some.inj (Tryz.func7.symm.trans hfn)).symm
   refine ⟨yY, fun j t ht => ?_⟩
   have h3 := List.all_eq_true.1 zfM t (by rw [Array.mem_toList_iff]; exact Array.mem_of_getElem? ht)
   have h4 : Tryz.prog.wantsStandIn t = false := by simpa using h3
   exact h4)
  ziS
#print axioms doubts_card
end Go.Proofs.YtaphehlgijlfeaaGreatDoor
end
