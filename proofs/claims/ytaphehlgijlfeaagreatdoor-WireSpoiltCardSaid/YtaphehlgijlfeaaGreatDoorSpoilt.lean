
import Derived.Test.YtaphehlgijlfeaaGreatDoorFrame
import Derived.Test.YtaphehlgijlfeaaGreatDoorFrameE
import Derived.Test.YtaphehlgijlfeaaGreatDoorExK
import Derived.Test.YtaphehlgijlfeaaGreatDoorWiY6
set_option linter.unusedVariables false
set_option linter.unusedSimpArgs false
section
namespace Go.Proofs.YtaphehlgijlfeaaGreatDoor
open Go Go.ChangeShapes Go.WideShapes Go.ChangeAt Go.RowKit Go.Av Go.Bv
set_option maxRecDepth 100000
theorem zCn (xs : List AV) (h : xA Tryz.prog 8 Tryz.f20.params.toList xs) : ACall Tryz.prog GE 20 xs (.v (.bool true)) := by
 obtain ⟨x0, _, rfl, h0, g0⟩ := h
 obtain ⟨x1, _, rfl, h1, g1⟩ := g0
 obtain ⟨x2, _, rfl, h2, g2⟩ := g1
 obtain ⟨x3, _, rfl, h3, rfl⟩ := g2
 obtain ⟨a0, rfl⟩ := zuF h0
 obtain ⟨a1, rfl⟩ := zBR h1
 obtain ⟨a2, rfl⟩ := zuF h2
 obtain ⟨a3, rfl⟩ := zuF h3
 exact f20 known.ge a0 a1 a2 a3
theorem zBV : joinedFacts Tryz.prog 20 Tryz.f20 Rows.wireSpoiltSpec Rows.wireSpoiltRow = true :=
 zF (zF (zF (zF (zF (zF (zF (zF (zF (zF (zF (zF (zF (zF (zF (zF (zF (zF (zF (zF (zF (zF (zF (zF (zF (zF (zF (zF (zF (zF (zF ((by kernel_rfl)) laidOut) zcz) (by kernel_rfl)) (by kernel_rfl)) (by kernel_rfl)) za6) (by kernel_rfl)) za8) (by kernel_rfl)) (by kernel_rfl)) (by kernel_rfl)) (by kernel_rfl)) (by kernel_rfl)) (by kernel_rfl)) (by kernel_rfl)) (by kernel_rfl)) (by kernel_rfl)) (by kernel_rfl)) (by kernel_rfl)) (by kernel_rfl)) (by kernel_rfl)) zcy) (by kernel_rfl)) zba) zaT) t_lifted) zcC) (by kernel_rfl)) (by kernel_rfl)) (by kernel_rfl)) (by kernel_rfl)
theorem spoilt_name : Tryz.prog.funcNamed "isobar/isobarlaw02.WireSpoilt" = some 20 := by kernel_rfl
theorem zBY : Tryz.f20.isInstance Tryz.prog Rows.wireSpoiltRow.origin Rows.wireSpoiltRow.targs := of_decide_eq_true (by kernel_rfl)
theorem zCa : Tryz.f20.isWrapper Tryz.prog Rows.wireSpoiltRow.wrapper Rows.wireSpoiltRow.mainSum := by unfold Func.isWrapper; first | (rw [if_pos (by decide +kernel)]; kernel_rfl) | (rw [if_neg (by decide +kernel)]; exact ⟨rfl, rfl⟩)
theorem zBt : Tryz.prog.inits.idxOf? 20 = none := by kernel_rfl
theorem zBS : (Tryz.f20.params.toList.all fun t => vH Tryz.prog (8 + 1) t) = true := by kernel_rfl
theorem zCi : (Tryz.f20.params.toList.all fun t => Tryz.prog.readableRec t && decide (t < Tryz.prog.types.size)) = true := by kernel_rfl
theorem zBh {H : Type} (enc : TypeId × Value -> H) (os : Os) : ∃ (w : World) (tape : Tape) (i : Input), w.os = os /\ (w.forCall tape i).Shaped Tryz.checked.prog /\ i.vars = [] /\ Input.okWide Tryz.checked.prog (w.forCall tape i) .any w.heap.size 20 i /\
      ((Rows.wireSpoiltSpec.pre enc Tryz.checked.prog Tryz.f20 [] false (w.forCall tape i).memory i.args /\ laidMetH Tryz.prog laid7 (w.forCall tape i).memory) /\ sizedMet enc Tryz.checked.prog Tryz.f20 (OpenSpec.ofChange Rows.wireSpoiltSpec) false (w.forCall tape i).memory i.args) /\ ({} : Assume).holds Tryz.checked.prog (lone (Frame.enter Tryz.checked.prog 20 i.args .normal) [] (w.forCall tape i)) :=
  ChangeSpec.witness_shaped (enc := enc) (C := Tryz.checked) (os := os) (X := fun w _ => laidMetH Tryz.prog laid7 w) false (World.laidAll Tryz.prog os laid7) #[.int .i64 0, .slice none 0 0, .int .i64 0, .int .i64 0] 8 (World.laidAll_os _ _ _) (zBJ os _) (by kernel_rfl) (by kernel_rfl) (by kernel_rfl) (zA5 os _)
theorem zBI : Rows.WireSpoiltSaid :=
 OpenClaim.holds_of_wide 20 Tryz.f20 rfl rfl rfl rfl rfl rfl rfl ⟨rfl, rfl, rfl, rfl, rfl⟩ rfl rfl rfl rfl rfl spoilt_name Tryz.func20 zBV zBY zCa
  (fun os started H enc _ => zBL zAH os started H enc (s := Rows.wireSpoiltSpec) (n := 8) Tryz.func20 zBt zBS zCi rfl rfl
   (fun ds hd => match ds, hd with | [_, _, _, _], _ => rfl) zCn (zBh enc os))
theorem zC3 : Rows.wireSpoiltRow.wfByText (OpenSpec.ofChange Rows.wireSpoiltSpec) = true := by kernel_rfl
theorem spoilt_main : Tryz.pinned.checked.prog.mainIs = some (true, "faf32b471a4046c26054fd80b9544b2851aca4c527019fae6cdd7dbae78c9e5d".toList) := by kernel_rfl
theorem zBl : (Tryz.f20.params.toList.all fun t => !Tryz.prog.wantsStandIn t) = true := by kernel_rfl
theorem zB3 : false = Rows.wireSpoiltRow.goesBy Tryz.prog := by kernel_rfl
theorem spoilt_card : Rows.WireSpoiltCardSaid :=
 Claim7.holds_tied_plain_at .later [] [.data, .data, .data, .data, .sentinel, .sentinel, .pinned] true (true, "faf32b471a4046c26054fd80b9544b2851aca4c527019fae6cdd7dbae78c9e5d") true
  zBI (fun _ h => by cases h) zC3 (fun _ h => by cases h) wireSpoilt_row_tie rfl ⟨rfl, rfl⟩ spoilt_main rfl
  (fun f fn hf hfn => by
   obtain rfl : f = 20 := Option.some.inj (spoilt_name.symm.trans hf) |>.symm
   obtain rfl : fn = Tryz.f20 := (Option.some.inj (Tryz.func20.symm.trans hfn)).symm
   refine ⟨yY, fun j t ht => ?_⟩
   have h3 := List.all_eq_true.1 zBl t (by rw [Array.mem_toList_iff]; exact Array.mem_of_getElem? ht)
   have h4 : Tryz.prog.wantsStandIn t = false := by simpa using h3
   exact h4)
  zB3
#print axioms spoilt_card
end Go.Proofs.YtaphehlgijlfeaaGreatDoor
end
