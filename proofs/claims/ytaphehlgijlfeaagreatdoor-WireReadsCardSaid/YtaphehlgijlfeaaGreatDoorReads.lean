
import Derived.Test.YtaphehlgijlfeaaGreatDoorFrame
import Derived.Test.YtaphehlgijlfeaaGreatDoorFrameE
import Derived.Test.YtaphehlgijlfeaaGreatDoorExK
import Derived.Test.YtaphehlgijlfeaaGreatDoorWiY6
set_option linter.unusedVariables false
set_option linter.unusedSimpArgs false
section
namespace Go.Proofs.YtaphehlgijlfeaaGreatDoor
open Go Go.ChangeShapes Go.WideShapes Go.ChangeAt Go.RowKit Go.Av Go.Bv
set_option maxRecDepth 100000
theorem zC2 (xs : List AV) (h : xA Tryz.prog 8 Tryz.f19.params.toList xs) : ACall Tryz.prog GE 19 xs (.v (.bool true)) := by
 obtain ⟨x0, _, rfl, h0, rfl⟩ := h
 obtain ⟨a0, rfl⟩ := zDl h0
 exact f19 known.ge a0
theorem zB6 : joinedFacts Tryz.prog 19 Tryz.f19 Rows.wireReadsSpec Rows.wireReadsRow = true :=
 zF (zF (zF (zF (zF (zF (zF (zF (zF (zF (zF (zF (zF (zF (zF (zF (zF (zF (zF (zF (zF (zF (zF (zF (zF (zF (zF (zF (zF (zF (zF ((by kernel_rfl)) laidOut) zcz) (by kernel_rfl)) (by kernel_rfl)) (by kernel_rfl)) za6) (by kernel_rfl)) za8) (by kernel_rfl)) (by kernel_rfl)) (by kernel_rfl)) (by kernel_rfl)) (by kernel_rfl)) (by kernel_rfl)) (by kernel_rfl)) (by kernel_rfl)) (by kernel_rfl)) (by kernel_rfl)) (by kernel_rfl)) (by kernel_rfl)) (by kernel_rfl)) zcy) (by kernel_rfl)) zba) zaT) t_lifted) zcC) (by kernel_rfl)) (by kernel_rfl)) (by kernel_rfl)) (by kernel_rfl)
theorem reads_name : Tryz.prog.funcNamed "isobar/isobarlaw02.WireReads" = some 19 := by kernel_rfl
theorem zCw : Tryz.f19.isInstance Tryz.prog Rows.wireReadsRow.origin Rows.wireReadsRow.targs := of_decide_eq_true (by kernel_rfl)
theorem zCo : Tryz.f19.isWrapper Tryz.prog Rows.wireReadsRow.wrapper Rows.wireReadsRow.mainSum := by unfold Func.isWrapper; first | (rw [if_pos (by decide +kernel)]; kernel_rfl) | (rw [if_neg (by decide +kernel)]; exact ⟨rfl, rfl⟩)
theorem zBF : Tryz.prog.inits.idxOf? 19 = none := by kernel_rfl
theorem zB0 : (Tryz.f19.params.toList.all fun t => vH Tryz.prog (8 + 1) t) = true := by kernel_rfl
theorem zCt : (Tryz.f19.params.toList.all fun t => Tryz.prog.readableRec t && decide (t < Tryz.prog.types.size)) = true := by kernel_rfl
theorem zBs {H : Type} (enc : TypeId × Value -> H) (os : Os) : ∃ (w : World) (tape : Tape) (i : Input), w.os = os /\ (w.forCall tape i).Shaped Tryz.checked.prog /\ i.vars = [] /\ Input.okWide Tryz.checked.prog (w.forCall tape i) .any w.heap.size 19 i /\
      ((Rows.wireReadsSpec.pre enc Tryz.checked.prog Tryz.f19 [] false (w.forCall tape i).memory i.args /\ laidMetH Tryz.prog laid7 (w.forCall tape i).memory) /\ sizedMet enc Tryz.checked.prog Tryz.f19 (OpenSpec.ofChange Rows.wireReadsSpec) false (w.forCall tape i).memory i.args) /\ ({} : Assume).holds Tryz.checked.prog (lone (Frame.enter Tryz.checked.prog 19 i.args .normal) [] (w.forCall tape i)) :=
  ChangeSpec.witness_shaped (enc := enc) (C := Tryz.checked) (os := os) (X := fun w _ => laidMetH Tryz.prog laid7 w) false (World.laidAll Tryz.prog os laid7) #[.string ByteArray.empty] 8 (World.laidAll_os _ _ _) (zBJ os _) (by kernel_rfl) (by kernel_rfl) (by kernel_rfl) (zA5 os _)
theorem zCf : Rows.WireReadsSaid :=
 OpenClaim.holds_of_wide 19 Tryz.f19 rfl rfl rfl rfl rfl rfl rfl ⟨rfl, rfl, rfl, rfl, rfl⟩ rfl rfl rfl rfl rfl reads_name Tryz.func19 zB6 zCw zCo
  (fun os started H enc _ => zBL zAH os started H enc (s := Rows.wireReadsSpec) (n := 8) Tryz.func19 zBF zB0 zCt rfl rfl
   (fun ds hd => match ds, hd with | [_], _ => rfl) zC2 (zBs enc os))
theorem zDg : Rows.wireReadsRow.wfByText (OpenSpec.ofChange Rows.wireReadsSpec) = true := by kernel_rfl
theorem reads_main : Tryz.pinned.checked.prog.mainIs = some (true, "faf32b471a4046c26054fd80b9544b2851aca4c527019fae6cdd7dbae78c9e5d".toList) := by kernel_rfl
theorem zBv : (Tryz.f19.params.toList.all fun t => !Tryz.prog.wantsStandIn t) = true := by kernel_rfl
theorem zCz : false = Rows.wireReadsRow.goesBy Tryz.prog := by kernel_rfl
theorem reads_card : Rows.WireReadsCardSaid :=
 Claim7.holds_tied_plain_at .later [] [.data, .data, .data, .data, .sentinel, .sentinel, .pinned] true (true, "faf32b471a4046c26054fd80b9544b2851aca4c527019fae6cdd7dbae78c9e5d") true
  zCf (fun _ h => by cases h) zDg (fun _ h => by cases h) wireReads_row_tie rfl ⟨rfl, rfl⟩ reads_main rfl
  (fun f fn hf hfn => by
   obtain rfl : f = 19 := Option.some.inj (reads_name.symm.trans hf) |>.symm
   obtain rfl : fn = Tryz.f19 := (Option.some.inj (Tryz.func19.symm.trans hfn)).symm
   refine ⟨yY, fun j t ht => ?_⟩
   have h3 := List.all_eq_true.1 zBv t (by rw [Array.mem_toList_iff]; exact Array.mem_of_getElem? ht)
   have h4 : Tryz.prog.wantsStandIn t = false := by simpa using h3
   exact h4)
  zCz
#print axioms reads_card
end Go.Proofs.YtaphehlgijlfeaaGreatDoor
end
