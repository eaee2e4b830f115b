
import Derived.Test.YtaphehlgijlfeaaGreatDoorFrame
import Derived.Test.YtaphehlgijlfeaaGreatDoorFrameE
import Derived.Test.YtaphehlgijlfeaaGreatDoorExK
import Derived.Test.YtaphehlgijlfeaaGreatDoorWiY6
set_option linter.unusedVariables false
set_option linter.unusedSimpArgs false
section
namespace Go.Proofs.YtaphehlgijlfeaaGreatDoor
open Go Go.ChangeShapes Go.WideShapes Go.ChangeAt Go.RowKit Go.Av Go.Bv
set_option maxRecDepth 100000
theorem zCp (xs : List AV) (h : xA Tryz.prog 8 Tryz.f18.params.toList xs) : ACall Tryz.prog GE 18 xs (.v (.bool true)) := by
 obtain ⟨x0, _, rfl, h0, g0⟩ := h
 obtain ⟨x1, _, rfl, h1, rfl⟩ := g0
 obtain ⟨a0, rfl⟩ := zuF h0
 obtain ⟨a1, rfl⟩ := zBR h1
 exact f18 known.ge a0 a1
theorem zBT : joinedFacts Tryz.prog 18 Tryz.f18 Rows.wirePrintsSpec Rows.wirePrintsRow = true :=
 zF (zF (zF (zF (zF (zF (zF (zF (zF (zF (zF (zF (zF (zF (zF (zF (zF (zF (zF (zF (zF (zF (zF (zF (zF (zF (zF (zF (zF (zF (zF ((by kernel_rfl)) laidOut) zcz) (by kernel_rfl)) (by kernel_rfl)) (by kernel_rfl)) za6) (by kernel_rfl)) za8) (by kernel_rfl)) (by kernel_rfl)) (by kernel_rfl)) (by kernel_rfl)) (by kernel_rfl)) (by kernel_rfl)) (by kernel_rfl)) (by kernel_rfl)) (by kernel_rfl)) (by kernel_rfl)) (by kernel_rfl)) (by kernel_rfl)) (by kernel_rfl)) zcy) (by kernel_rfl)) zba) zaT) t_lifted) zcC) (by kernel_rfl)) (by kernel_rfl)) (by kernel_rfl)) (by kernel_rfl)
theorem prints_name : Tryz.prog.funcNamed "isobar/isobarlaw02.WirePrints" = some 18 := by kernel_rfl
theorem zBW : Tryz.f18.isInstance Tryz.prog Rows.wirePrintsRow.origin Rows.wirePrintsRow.targs := of_decide_eq_true (by kernel_rfl)
theorem zB5 : Tryz.f18.isWrapper Tryz.prog Rows.wirePrintsRow.wrapper Rows.wirePrintsRow.mainSum := by unfold Func.isWrapper; first | (rw [if_pos (by decide +kernel)]; kernel_rfl) | (rw [if_neg (by decide +kernel)]; exact ⟨rfl, rfl⟩)
theorem zBu : Tryz.prog.inits.idxOf? 18 = none := by kernel_rfl
theorem zBQ : (Tryz.f18.params.toList.all fun t => vH Tryz.prog (8 + 1) t) = true := by kernel_rfl
theorem zBX : (Tryz.f18.params.toList.all fun t => Tryz.prog.readableRec t && decide (t < Tryz.prog.types.size)) = true := by kernel_rfl
theorem zBr {H : Type} (enc : TypeId × Value -> H) (os : Os) : ∃ (w : World) (tape : Tape) (i : Input), w.os = os /\ (w.forCall tape i).Shaped Tryz.checked.prog /\ i.vars = [] /\ Input.okWide Tryz.checked.prog (w.forCall tape i) .any w.heap.size 18 i /\
      ((Rows.wirePrintsSpec.pre enc Tryz.checked.prog Tryz.f18 [] false (w.forCall tape i).memory i.args /\ laidMetH Tryz.prog laid7 (w.forCall tape i).memory) /\ sizedMet enc Tryz.checked.prog Tryz.f18 (OpenSpec.ofChange Rows.wirePrintsSpec) false (w.forCall tape i).memory i.args) /\ ({} : Assume).holds Tryz.checked.prog (lone (Frame.enter Tryz.checked.prog 18 i.args .normal) [] (w.forCall tape i)) :=
  ChangeSpec.witness_shaped (enc := enc) (C := Tryz.checked) (os := os) (X := fun w _ => laidMetH Tryz.prog laid7 w) false (World.laidAll Tryz.prog os laid7) #[.int .i64 0, .slice none 0 0] 8 (World.laidAll_os _ _ _) (zBJ os _) (by kernel_rfl) (by kernel_rfl) (by kernel_rfl) (zA5 os _)
theorem zBU : Rows.WirePrintsSaid :=
 OpenClaim.holds_of_wide 18 Tryz.f18 rfl rfl rfl rfl rfl rfl rfl ⟨rfl, rfl, rfl, rfl, rfl⟩ rfl rfl rfl rfl rfl prints_name Tryz.func18 zBT zBW zB5
  (fun os started H enc _ => zBL zAH os started H enc (s := Rows.wirePrintsSpec) (n := 8) Tryz.func18 zBu zBQ zBX rfl rfl
   (fun ds hd => match ds, hd with | [_, _], _ => rfl) zCp (zBr enc os))
theorem zC5 : Rows.wirePrintsRow.wfByText (OpenSpec.ofChange Rows.wirePrintsSpec) = true := by kernel_rfl
theorem prints_main : Tryz.pinned.checked.prog.mainIs = some (true, "faf32b471a4046c26054fd80b9544b2851aca4c527019fae6cdd7dbae78c9e5d".toList) := by kernel_rfl
theorem zBo : (Tryz.f18.params.toList.all fun t => !Tryz.prog.wantsStandIn t) = true := by kernel_rfl
theorem zB7 : false = Rows.wirePrintsRow.goesBy Tryz.prog := by kernel_rfl
theorem prints_card : Rows.WirePrintsCardSaid :=
 Claim7.holds_tied_plain_at .later [] [.data, .data, .data, .data, .sentinel, .sentinel, .pinned] true (true, "faf32b471a4046c26054fd80b9544b2851aca4c527019fae6cdd7dbae78c9e5d") true
  zBU (fun _ h => by cases h) zC5 (fun _ h => by cases h) wirePrints_row_tie rfl ⟨rfl, rfl⟩ prints_main rfl
  (fun f fn hf hfn => by
   obtain rfl : f = 18 := Option.some.inj (prints_name.symm.trans hf) |>.symm
   obtain rfl : fn = Tryz.f18 := (Option.some.inj (Tryz.func18.symm.trans hfn)).symm
   refine ⟨yY, fun j t ht => ?_⟩
   have h3 := List.all_eq_true.1 zBo t (by rw [Array.mem_toList_iff]; exact Array.mem_of_getElem? ht)
   have h4 : Tryz.prog.wantsStandIn t = false := by simpa using h3
   exact h4)
  zB7
#print axioms prints_card
end Go.Proofs.YtaphehlgijlfeaaGreatDoor
end
