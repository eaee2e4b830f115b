/- WireClashes: for every input the law returns true and leaves its arguments as they were; the program's variables are laid as its text lays them. -/
import Derived.Test.YtaphehlgijlfeaaGreatDoorFrame
import Derived.Test.YtaphehlgijlfeaaGreatDoorExK
import Derived.Test.YtaphehlgijlfeaaGreatDoorWiX6
set_option linter.unusedVariables false
set_option linter.unusedSimpArgs false
section
namespace Go.Proofs.YtaphehlgijlfeaaGreatDoor
open Go Go.ChangeShapes Go.WideShapes Go.ChangeAt Go.RowKit Go.Av Go.Bv
set_option maxRecDepth 100000
theorem zFM (xs:List AV) (h:xA Tryz.prog 8 Tryz.f5.params.toList xs):ACall Tryz.prog GT 5 xs (.v (.bool true)):=by
 obtain ⟨x0, _, rfl, h0, g0⟩:=h
 obtain ⟨x1, _, rfl, h1, rfl⟩:=g0
 obtain ⟨a0, rfl⟩:=zdQ h0
 obtain ⟨a1, rfl⟩:=zj1 h1
 exact f5 known a0 a1
theorem zFv:joinedFacts Tryz.prog 5 Tryz.f5 Rows.wireClashesSpec Rows.wireClashesRow = true:=
 zF (zF (zF (zF (zF (zF (zF (zF (zF (zF (zF (zF (zF (zF (zF (zF (zF (zF (zF (zF (zF (zF (zF (zF (zF (zF (zF (zF (zF (zF (zF ((by kernel_rfl)) laidOut) zcz) (by kernel_rfl)) (by kernel_rfl)) (by kernel_rfl)) za6) (by kernel_rfl)) za8) (by kernel_rfl)) (by kernel_rfl)) (by kernel_rfl)) (by kernel_rfl)) (by kernel_rfl)) (by kernel_rfl)) (by kernel_rfl)) (by kernel_rfl)) (by kernel_rfl)) (by kernel_rfl)) (by kernel_rfl)) (by kernel_rfl)) (by kernel_rfl)) zcy) (by kernel_rfl)) zba) zaT) t_lifted) zcC) (by kernel_rfl)) (by kernel_rfl)) (by kernel_rfl)) (by kernel_rfl)
theorem clashes_name:Tryz.prog.funcNamed "isobar/isobarlaw02.WireClashes" = some 5:=by kernel_rfl
theorem zFG:Tryz.f5.isInstance Tryz.prog Rows.wireClashesRow.origin Rows.wireClashesRow.targs:=of_decide_eq_true (by kernel_rfl)
theorem zFD:Tryz.f5.isWrapper Tryz.prog Rows.wireClashesRow.wrapper Rows.wireClashesRow.mainSum:=by unfold Func.isWrapper; first | (rw [if_pos (by decide +kernel)]; kernel_rfl) | (rw [if_neg (by decide +kernel)]; exact ⟨rfl, rfl⟩)
theorem zFr:Tryz.prog.inits.idxOf? 5 = none:=by kernel_rfl
theorem zFw:(Tryz.f5.params.toList.all fun t=>vH Tryz.prog (8 + 1) t) = true:=by kernel_rfl
theorem zFC:(Tryz.f5.params.toList.all fun t=>Tryz.prog.readableRec t && decide (t < Tryz.prog.types.size)) = true:=by kernel_rfl
theorem zFl {H : Type} (enc : TypeId × Value -> H) (os : Os) : ∃ (w : World) (tape : Tape) (i : Input), w.os = os /\ (w.forCall tape i).Shaped Tryz.checked.prog /\ i.vars = [] /\ Input.okWide Tryz.checked.prog (w.forCall tape i) .any w.heap.size 5 i /\
      ((Rows.wireClashesSpec.pre enc Tryz.checked.prog Tryz.f5 [] false (w.forCall tape i).memory i.args /\ laidMetH Tryz.prog laid3 (w.forCall tape i).memory) /\ sizedMet enc Tryz.checked.prog Tryz.f5 (OpenSpec.ofChange Rows.wireClashesSpec) false (w.forCall tape i).memory i.args) /\ ({}:Assume).holds Tryz.checked.prog (lone (Frame.enter Tryz.checked.prog 5 i.args .normal) [] (w.forCall tape i)):=
  ChangeSpec.witness_shaped (enc:=enc) (C:=Tryz.checked) (os:=os) (X:=fun w _=>laidMetH Tryz.prog laid3 w) false (World.doorLaid Tryz.prog 400 os) #[.agg #[.slice none 0 0, .slice none 0 0, .int .i64 0], .slice none 0 0] 8 rfl (World.shaped_of_RefB (by kernel_rfl) (by kernel_rfl)) (by kernel_rfl) (by kernel_rfl) (by kernel_rfl) (door_met os _)
theorem zFu:Rows.WireClashesSaid:=
 OpenClaim.holds_of_wide 5 Tryz.f5 rfl rfl rfl rfl rfl rfl rfl ⟨rfl, rfl, rfl, rfl, rfl⟩ rfl rfl rfl rfl rfl clashes_name Tryz.func5 zFv zFG zFD
  (fun os started H enc _=>lifted os started H enc (s:=Rows.wireClashesSpec) (n:=8) Tryz.func5 zFr zFw zFC rfl rfl
   (fun ds hd=>match ds, hd with | [_, _], _=>rfl) zFM (zFl enc os))
theorem zFR:Rows.wireClashesRow.wfByText (OpenSpec.ofChange Rows.wireClashesSpec) = true:=by kernel_rfl
theorem clashes_main:Tryz.pinned.checked.prog.mainIs = some (true, "faf32b471a4046c26054fd80b9544b2851aca4c527019fae6cdd7dbae78c9e5d".toList):=by kernel_rfl
theorem zFk:(Tryz.f5.params.toList.all fun t=>!Tryz.prog.wantsStandIn t) = true:=by kernel_rfl
theorem zFH:false = Rows.wireClashesRow.goesBy Tryz.prog:=by kernel_rfl
theorem clashes_card:Rows.WireClashesCardSaid:=
 Claim7.holds_tied_plain_at .later [] [.data, .data, .data] true (true, "faf32b471a4046c26054fd80b9544b2851aca4c527019fae6cdd7dbae78c9e5d") true
  zFu (fun _ h=>by cases h) zFR (fun _ h=>by cases h) wireClashes_row_tie rfl ⟨rfl, rfl⟩ clashes_main rfl
  (fun f fn hf hfn=>by
   obtain rfl:f = 5:=Option.some.inj (clashes_name.symm.trans hf) |>.symm
   obtain rfl:fn = Tryz.f5:=(Option.some.inj (Tryz.func5.symm.trans hfn)).symm
   refine ⟨yY, fun j t ht=>?_⟩
   have h3:=List.all_eq_true.1 zFk t (by rw [Array.mem_toList_iff]; exact Array.mem_of_getElem? ht)
   have h4:Tryz.prog.wantsStandIn t = false:=by simpa using h3
   exact h4)
  zFH
#print axioms clashes_card
end Go.Proofs.YtaphehlgijlfeaaGreatDoor
end
