
import Derived.Test.YtaphehlgijlfeaaGreatDoorFrame
import Derived.Test.YtaphehlgijlfeaaGreatDoorExK
import Derived.Test.YtaphehlgijlfeaaGreatDoorWiQ5
set_option linter.unusedVariables false
set_option linter.unusedSimpArgs false
section
namespace Go.Proofs.YtaphehlgijlfeaaGreatDoor
open Go Go.ChangeShapes Go.WideShapes Go.ChangeAt Go.RowKit Go.Av Go.Bv
set_option maxRecDepth 100000
theorem zx9 (xs : List AV) (h : xA Tryz.prog 8 Tryz.f10.params.toList xs) : ACall Tryz.prog GT 10 xs (.v (.bool true)) := by
 obtain ⟨x0, _, rfl, h0, g0⟩ := h
 obtain ⟨x1, _, rfl, h1, g1⟩ := g0
 obtain ⟨x2, _, rfl, h2, g2⟩ := g1
 obtain ⟨x3, _, rfl, h3, g3⟩ := g2
 obtain ⟨x4, _, rfl, h4, g4⟩ := g3
 obtain ⟨x5, _, rfl, h5, g5⟩ := g4
 obtain ⟨x6, _, rfl, h6, rfl⟩ := g5
 obtain ⟨a0, rfl⟩ := zyS h0
 obtain ⟨a1, rfl⟩ := zuF h1
 obtain ⟨a2, rfl⟩ := zzy h2
 obtain ⟨a3, rfl⟩ := zuF h3
 obtain ⟨a4, rfl⟩ := zuF h4
 obtain ⟨a5, rfl⟩ := zuF h5
 obtain ⟨a6, rfl⟩ := zuF h6
 exact f10 known a0 a1 a2 a3 a4 a5 a6
theorem zw1 : joinedFacts Tryz.prog 10 Tryz.f10 Rows.wireCostsSpec Rows.wireCostsRow = true :=
 zF (zF (zF (zF (zF (zF (zF (zF (zF (zF (zF (zF (zF (zF (zF (zF (zF (zF (zF (zF (zF (zF (zF (zF (zF (zF (zF (zF (zF (zF (zF ((by kernel_rfl)) laidOut) zcz) (by kernel_rfl)) (by kernel_rfl)) (by kernel_rfl)) za6) (by kernel_rfl)) za8) (by kernel_rfl)) (by kernel_rfl)) (by kernel_rfl)) (by kernel_rfl)) (by kernel_rfl)) (by kernel_rfl)) (by kernel_rfl)) (by kernel_rfl)) (by kernel_rfl)) (by kernel_rfl)) (by kernel_rfl)) (by kernel_rfl)) (by kernel_rfl)) zcy) (by kernel_rfl)) zba) zaT) t_lifted) zcC) (by kernel_rfl)) (by kernel_rfl)) (by kernel_rfl)) (by kernel_rfl)
theorem costs_name : Tryz.prog.funcNamed "isobar/isobarlaw02.WireCosts" = some 10 := by kernel_rfl
theorem zxu : Tryz.f10.isInstance Tryz.prog Rows.wireCostsRow.origin Rows.wireCostsRow.targs := of_decide_eq_true (by kernel_rfl)
theorem zxt : Tryz.f10.isWrapper Tryz.prog Rows.wireCostsRow.wrapper Rows.wireCostsRow.mainSum := by unfold Func.isWrapper; first | (rw [if_pos (by decide +kernel)]; kernel_rfl) | (rw [if_neg (by decide +kernel)]; exact ⟨rfl, rfl⟩)
theorem zwu : Tryz.prog.inits.idxOf? 10 = none := by kernel_rfl
theorem zw9 : (Tryz.f10.params.toList.all fun t => vH Tryz.prog (8 + 1) t) = true := by kernel_rfl
theorem zxs : (Tryz.f10.params.toList.all fun t => Tryz.prog.readableRec t && decide (t < Tryz.prog.types.size)) = true := by kernel_rfl
theorem zwi {H : Type} (enc : TypeId × Value -> H) (os : Os) : ∃ (w : World) (tape : Tape) (i : Input), w.os = os /\ (w.forCall tape i).Shaped Tryz.checked.prog /\ i.vars = [] /\ Input.okWide Tryz.checked.prog (w.forCall tape i) .any w.heap.size 10 i /\
      ((Rows.wireCostsSpec.pre enc Tryz.checked.prog Tryz.f10 [] false (w.forCall tape i).memory i.args /\ laidMetH Tryz.prog laid3 (w.forCall tape i).memory) /\ sizedMet enc Tryz.checked.prog Tryz.f10 (OpenSpec.ofChange Rows.wireCostsSpec) false (w.forCall tape i).memory i.args) /\ ({} : Assume).holds Tryz.checked.prog (lone (Frame.enter Tryz.checked.prog 10 i.args .normal) [] (w.forCall tape i)) :=
  ChangeSpec.witness_shaped (enc := enc) (C := Tryz.checked) (os := os) (X := fun w _ => laidMetH Tryz.prog laid3 w) false (World.doorLaid Tryz.prog 400 os) #[.agg #[.int .i64 0, .int .i64 0, .int .i64 0], .int .i64 0, .agg #[.int .i64 0, .slice none 0 0], .int .i64 0, .int .i64 0, .int .i64 0, .int .i64 0] 8 rfl (World.shaped_of_RefB (by kernel_rfl) (by kernel_rfl)) (by kernel_rfl) (by kernel_rfl) (by kernel_rfl) (door_met os _)
theorem zxc : Rows.WireCostsSaid :=
 OpenClaim.holds_of_wide 10 Tryz.f10 rfl rfl rfl rfl rfl rfl rfl ⟨rfl, rfl, rfl, rfl, rfl⟩ rfl rfl rfl rfl rfl costs_name Tryz.func10 zw1 zxu zxt
  (fun os started H enc _ => lifted os started H enc (s := Rows.wireCostsSpec) (n := 8) Tryz.func10 zwu zw9 zxs rfl rfl
   (fun ds hd => match ds, hd with | [_, _, _, _, _, _, _], _ => rfl) zx9 (zwi enc os))
theorem zyC : Rows.wireCostsRow.wfByText (OpenSpec.ofChange Rows.wireCostsSpec) = true := by kernel_rfl
theorem costs_main : Tryz.pinned.checked.prog.mainIs = some (true, "faf32b471a4046c26054fd80b9544b2851aca4c527019fae6cdd7dbae78c9e5d".toList) := by kernel_rfl
theorem zwf : (Tryz.f10.params.toList.all fun t => !Tryz.prog.wantsStandIn t) = true := by kernel_rfl
theorem zxp : false = Rows.wireCostsRow.goesBy Tryz.prog := by kernel_rfl
theorem costs_card : Rows.WireCostsCardSaid :=
 Claim7.holds_tied_plain_at .later [] [.data, .data, .data] true (true, "faf32b471a4046c26054fd80b9544b2851aca4c527019fae6cdd7dbae78c9e5d") true
  zxc (fun _ h => by cases h) zyC (fun _ h => by cases h) wireCosts_row_tie rfl ⟨rfl, rfl⟩ costs_main rfl
  (fun f fn hf hfn => by
   obtain rfl : f = 10 := Option.some.inj (costs_name.symm.trans hf) |>.symm
   obtain rfl : fn = Tryz.f10 := (Option.some.inj (Tryz.func10.symm.trans hfn)).symm
   refine ⟨yY, fun j t ht => ?_⟩
   have h3 := List.all_eq_true.1 zwf t (by rw [Array.mem_toList_iff]; exact Array.mem_of_getElem? ht)
   have h4 : Tryz.prog.wantsStandIn t = false := by simpa using h3
   exact h4)
  zxp
#print axioms costs_card
end Go.Proofs.YtaphehlgijlfeaaGreatDoor
end
