/- ChartWhole: for every input the law returns true and leaves its arguments as they were; the program's variables are laid as its text lays them. -/
import Derived.Test.YtdjncbjfejdamaaGreatDoorFrame
import Derived.Test.YtdjncbjfejdamaaGreatDoorExG
import Derived.Test.YtdjncbjfejdamaaGreatDoorChLP
set_option linter.unusedVariables false
set_option linter.unusedSimpArgs false
section
namespace Go.Proofs.YtdjncbjfejdamaaGreatDoor
open Go Go.ChangeShapes Go.WideShapes Go.ChangeAt Go.RowKit Go.Av Go.Bv
set_option maxRecDepth 100000
theorem zTy (xs:List AV) (h:xA Tryz.prog 8 Tryz.f5.params.toList xs):ACall Tryz.prog GT 5 xs (.v (.bool true)):=by
 obtain ⟨x0, _, rfl, h0, g0⟩:=h
 obtain ⟨x1, _, rfl, h1, g1⟩:=g0
 obtain ⟨x2, _, rfl, h2, g2⟩:=g1
 obtain ⟨x3, _, rfl, h3, rfl⟩:=g2
 obtain ⟨a0, rfl⟩:=zQj h0
 obtain ⟨a1, rfl⟩:=zQk h1
 obtain ⟨a2, rfl⟩:=zQk h2
 obtain ⟨a3, rfl⟩:=zQk h3
 exact f5 known a0 a1 a2 a3
theorem zTi:joinedFacts Tryz.prog 5 Tryz.f5 Rows.chartWholeSpec Rows.chartWholeRow = true:=
 zF (zF (zF (zF (zF (zF (zF (zF (zF (zF (zF (zF (zF (zF (zF (zF (zF (zF (zF (zF (zF (zF (zF (zF (zF (zF (zF (zF (zF (zF (zF ((by kernel_rfl)) laidOut) zcz) (by kernel_rfl)) (by kernel_rfl)) (by kernel_rfl)) za6) (by kernel_rfl)) za8) (by kernel_rfl)) (by kernel_rfl)) (by kernel_rfl)) (by kernel_rfl)) (by kernel_rfl)) (by kernel_rfl)) (by kernel_rfl)) (by kernel_rfl)) (by kernel_rfl)) (by kernel_rfl)) (by kernel_rfl)) (by kernel_rfl)) (by kernel_rfl)) zcy) (by kernel_rfl)) zba) zaT) t_lifted) zcC) (by kernel_rfl)) (by kernel_rfl)) (by kernel_rfl)) (by kernel_rfl)
theorem whole_name:Tryz.prog.funcNamed "isobar/isobarlaw03.ChartWhole" = some 5:=by kernel_rfl
theorem zTp:Tryz.f5.isInstance Tryz.prog Rows.chartWholeRow.origin Rows.chartWholeRow.targs:=of_decide_eq_true (by kernel_rfl)
theorem zTn:Tryz.f5.isWrapper Tryz.prog Rows.chartWholeRow.wrapper Rows.chartWholeRow.mainSum:=by unfold Func.isWrapper; first | (rw [if_pos (by decide +kernel)]; kernel_rfl) | (rw [if_neg (by decide +kernel)]; exact ⟨rfl, rfl⟩)
theorem zTa:Tryz.prog.inits.idxOf? 5 = none:=by kernel_rfl
theorem zTh:(Tryz.f5.params.toList.all fun t=>vH Tryz.prog (8 + 1) t) = true:=by kernel_rfl
theorem zTm:(Tryz.f5.params.toList.all fun t=>Tryz.prog.readableRec t && decide (t < Tryz.prog.types.size)) = true:=by kernel_rfl
theorem zS6 {H : Type} (enc : TypeId × Value -> H) (os : Os) : ∃ (w : World) (tape : Tape) (i : Input), w.os = os /\ (w.forCall tape i).Shaped Tryz.checked.prog /\ i.vars = [] /\ Input.okWide Tryz.checked.prog (w.forCall tape i) .any w.heap.size 5 i /\
      ((Rows.chartWholeSpec.pre enc Tryz.checked.prog Tryz.f5 [] false (w.forCall tape i).memory i.args /\ laidMetH Tryz.prog laid3 (w.forCall tape i).memory) /\ sizedMet enc Tryz.checked.prog Tryz.f5 (OpenSpec.ofChange Rows.chartWholeSpec) false (w.forCall tape i).memory i.args) /\ ({}:Assume).holds Tryz.checked.prog (lone (Frame.enter Tryz.checked.prog 5 i.args .normal) [] (w.forCall tape i)):=
  ChangeSpec.witness_shaped (enc:=enc) (C:=Tryz.checked) (os:=os) (X:=fun w _=>laidMetH Tryz.prog laid3 w) false (World.doorLaid Tryz.prog 400 os) #[.agg #[.int .i64 0, .slice none 0 0], .int .i64 0, .int .i64 0, .int .i64 0] 8 rfl (World.shaped_of_RefB (by kernel_rfl) (by kernel_rfl)) (by kernel_rfl) (by kernel_rfl) (by kernel_rfl) (door_met os _)
theorem zTf:Rows.ChartWholeSaid:=
 OpenClaim.holds_of_wide 5 Tryz.f5 rfl rfl rfl rfl rfl rfl rfl ⟨rfl, rfl, rfl, rfl, rfl⟩ rfl rfl rfl rfl rfl whole_name Tryz.func5 zTi zTp zTn
  (fun os started H enc _=>lifted os started H enc (s:=Rows.chartWholeSpec) (n:=8) Tryz.func5 zTa zTh zTm rfl rfl
   (fun ds hd=>match ds, hd with | [_, _, _, _], _=>rfl) zTy (zS6 enc os))
theorem zTM:Rows.chartWholeRow.wfByText (OpenSpec.ofChange Rows.chartWholeSpec) = true:=by kernel_rfl
theorem whole_main:Tryz.pinned.checked.prog.mainIs = some (true, "2d17a4dc9e16d3a73f126c826b77bd7af92222a396f0142bc46a5dacda5c891f".toList):=by kernel_rfl
theorem zS5:(Tryz.f5.params.toList.all fun t=>!Tryz.prog.wantsStandIn t) = true:=by kernel_rfl
theorem zTo:false = Rows.chartWholeRow.goesBy Tryz.prog:=by kernel_rfl
theorem whole_card:Rows.ChartWholeCardSaid:=
 Claim7.holds_tied_plain_at .later [] [.data, .data, .data] true (true, "2d17a4dc9e16d3a73f126c826b77bd7af92222a396f0142bc46a5dacda5c891f") true
  zTf (fun _ h=>by cases h) zTM (fun _ h=>by cases h) chartWhole_row_tie rfl ⟨rfl, rfl⟩ whole_main rfl
  (fun f fn hf hfn=>by
   obtain rfl:f = 5:=Option.some.inj (whole_name.symm.trans hf) |>.symm
   obtain rfl:fn = Tryz.f5:=(Option.some.inj (Tryz.func5.symm.trans hfn)).symm
   refine ⟨yY, fun j t ht=>?_⟩
   have h3:=List.all_eq_true.1 zS5 t (by rw [Array.mem_toList_iff]; exact Array.mem_of_getElem? ht)
   have h4:Tryz.prog.wantsStandIn t = false:=by simpa using h3
   exact h4)
  zTo
#print axioms whole_card
end Go.Proofs.YtdjncbjfejdamaaGreatDoor
end
