
import Derived.Test.YtaphehlgijlfeaaGreatDoorFrame
import Derived.Test.YtaphehlgijlfeaaGreatDoorExK
import Derived.Test.YtaphehlgijlfeaaGreatDoorWiB2
set_option linter.unusedVariables false
set_option linter.unusedSimpArgs false
section
namespace Go.Proofs.YtaphehlgijlfeaaGreatDoor
open Go Go.ChangeShapes Go.WideShapes Go.ChangeAt Go.RowKit Go.Av Go.Bv
set_option maxRecDepth 100000
theorem ztO (xs : List AV) (h : xA Tryz.prog 8 Tryz.f3.params.toList xs) : ACall Tryz.prog GT 3 xs (.v (.bool true)) := by
 obtain ⟨x0, _, rfl, h0, g0⟩ := h
 obtain ⟨x1, _, rfl, h1, rfl⟩ := g0
 obtain ⟨a0, rfl⟩ := zdQ h0
 obtain ⟨a1, rfl⟩ := zj1 h1
 exact f3 known a0 a1
theorem ztE : joinedFacts Tryz.prog 3 Tryz.f3 Rows.wireCouldsSpec Rows.wireCouldsRow = true :=
 zF (zF (zF (zF (zF (zF (zF (zF (zF (zF (zF (zF (zF (zF (zF (zF (zF (zF (zF (zF (zF (zF (zF (zF (zF (zF (zF (zF (zF (zF (zF ((by kernel_rfl)) laidOut) zcz) (by kernel_rfl)) (by kernel_rfl)) (by kernel_rfl)) za6) (by kernel_rfl)) za8) (by kernel_rfl)) (by kernel_rfl)) (by kernel_rfl)) (by kernel_rfl)) (by kernel_rfl)) (by kernel_rfl)) (by kernel_rfl)) (by kernel_rfl)) (by kernel_rfl)) (by kernel_rfl)) (by kernel_rfl)) (by kernel_rfl)) (by kernel_rfl)) zcy) (by kernel_rfl)) zba) zaT) t_lifted) zcC) (by kernel_rfl)) (by kernel_rfl)) (by kernel_rfl)) (by kernel_rfl)
theorem coulds_name : Tryz.prog.funcNamed "isobar/isobarlaw02.WireCoulds" = some 3 := by kernel_rfl
theorem ztL : Tryz.f3.isInstance Tryz.prog Rows.wireCouldsRow.origin Rows.wireCouldsRow.targs := of_decide_eq_true (by kernel_rfl)
theorem ztI : Tryz.f3.isWrapper Tryz.prog Rows.wireCouldsRow.wrapper Rows.wireCouldsRow.mainSum := by unfold Func.isWrapper; first | (rw [if_pos (by decide +kernel)]; kernel_rfl) | (rw [if_neg (by decide +kernel)]; exact ⟨rfl, rfl⟩)
theorem ztC : Tryz.prog.inits.idxOf? 3 = none := by kernel_rfl
theorem ztH : (Tryz.f3.params.toList.all fun t => vH Tryz.prog (8 + 1) t) = true := by kernel_rfl
theorem ztN : (Tryz.f3.params.toList.all fun t => Tryz.prog.readableRec t && decide (t < Tryz.prog.types.size)) = true := by kernel_rfl
theorem ztA {H : Type} (enc : TypeId × Value -> H) (os : Os) : ∃ (w : World) (tape : Tape) (i : Input), w.os = os /\ (w.forCall tape i).Shaped Tryz.checked.prog /\ i.vars = [] /\ Input.okWide Tryz.checked.prog (w.forCall tape i) .any w.heap.size 3 i /\
      ((Rows.wireCouldsSpec.pre enc Tryz.checked.prog Tryz.f3 [] false (w.forCall tape i).memory i.args /\ laidMetH Tryz.prog laid3 (w.forCall tape i).memory) /\ sizedMet enc Tryz.checked.prog Tryz.f3 (OpenSpec.ofChange Rows.wireCouldsSpec) false (w.forCall tape i).memory i.args) /\ ({} : Assume).holds Tryz.checked.prog (lone (Frame.enter Tryz.checked.prog 3 i.args .normal) [] (w.forCall tape i)) :=
  ChangeSpec.witness_shaped (enc := enc) (C := Tryz.checked) (os := os) (X := fun w _ => laidMetH Tryz.prog laid3 w) false (World.doorLaid Tryz.prog 400 os) #[.agg #[.slice none 0 0, .slice none 0 0, .int .i64 0], .slice none 0 0] 8 rfl (World.shaped_of_RefB (by kernel_rfl) (by kernel_rfl)) (by kernel_rfl) (by kernel_rfl) (by kernel_rfl) (door_met os _)
theorem ztG : Rows.WireCouldsSaid :=
 OpenClaim.holds_of_wide 3 Tryz.f3 rfl rfl rfl rfl rfl rfl rfl ⟨rfl, rfl, rfl, rfl, rfl⟩ rfl rfl rfl rfl rfl coulds_name Tryz.func3 ztE ztL ztI
  (fun os started H enc _ => lifted os started H enc (s := Rows.wireCouldsSpec) (n := 8) Tryz.func3 ztC ztH ztN rfl rfl
   (fun ds hd => match ds, hd with | [_, _], _ => rfl) ztO (ztA enc os))
theorem ztT : Rows.wireCouldsRow.wfByText (OpenSpec.ofChange Rows.wireCouldsSpec) = true := by kernel_rfl
theorem coulds_main : Tryz.pinned.checked.prog.mainIs = some (true, "faf32b471a4046c26054fd80b9544b2851aca4c527019fae6cdd7dbae78c9e5d".toList) := by kernel_rfl
theorem ztz : (Tryz.f3.params.toList.all fun t => !Tryz.prog.wantsStandIn t) = true := by kernel_rfl
theorem ztK : false = Rows.wireCouldsRow.goesBy Tryz.prog := by kernel_rfl
theorem coulds_card : Rows.WireCouldsCardSaid :=
 Claim7.holds_tied_plain_at .later [] [.data, .data, .data] true (true, "faf32b471a4046c26054fd80b9544b2851aca4c527019fae6cdd7dbae78c9e5d") true
  ztG (fun _ h => by cases h) ztT (fun _ h => by cases h) wireCoulds_row_tie rfl ⟨rfl, rfl⟩ coulds_main rfl
  (fun f fn hf hfn => by
   obtain rfl : f = 3 := Option.some.inj (coulds_name.symm.trans hf) |>.symm
   obtain rfl : fn = Tryz.f3 := (Option.some.inj (Tryz.func3.symm.trans hfn)).symm
   refine ⟨yY, fun j t ht => ?_⟩
   have h3 := List.all_eq_true.1 ztz t (by rw [Array.mem_toList_iff]; exact Array.mem_of_getElem? ht)
   have h4 : Tryz.prog.wantsStandIn t = false := by simpa using h3
   exact h4)
  ztK
#print axioms coulds_card
end Go.Proofs.YtaphehlgijlfeaaGreatDoor
end
