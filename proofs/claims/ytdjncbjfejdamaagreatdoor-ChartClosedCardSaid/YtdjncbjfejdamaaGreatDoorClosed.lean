/- ChartClosed: for every input the law returns true and leaves its arguments as they were; the program's variables are laid as its text lays them. -/
import Derived.Test.YtdjncbjfejdamaaGreatDoorFrame
import Derived.Test.YtdjncbjfejdamaaGreatDoorExG
import Derived.Test.YtdjncbjfejdamaaGreatDoorChSE
set_option linter.unusedVariables false
set_option linter.unusedSimpArgs false
section
namespace Go.Proofs.YtdjncbjfejdamaaGreatDoor
open Go Go.ChangeShapes Go.WideShapes Go.ChangeAt Go.RowKit Go.Av Go.Bv
set_option maxRecDepth 100000
theorem zXI (xs:List AV) (h:xA Tryz.prog 8 Tryz.f8.params.toList xs):ACall Tryz.prog GT 8 xs (.v (.bool true)):=by
 obtain ⟨x0, _, rfl, h0, g0⟩:=h
 obtain ⟨x1, _, rfl, h1, g1⟩:=g0
 obtain ⟨x2, _, rfl, h2, g2⟩:=g1
 obtain ⟨x3, _, rfl, h3, g3⟩:=g2
 obtain ⟨x4, _, rfl, h4, rfl⟩:=g3
 obtain ⟨a0, rfl⟩:=zVR h0
 obtain ⟨a1, rfl⟩:=zQk h1
 obtain ⟨a2, rfl⟩:=zQk h2
 obtain ⟨a3, rfl⟩:=zYF h3
 obtain ⟨a4, rfl⟩:=zQj h4
 exact f8 known a0 a1 a2 a3 a4
theorem zXi:joinedFacts Tryz.prog 8 Tryz.f8 Rows.chartClosedSpec Rows.chartClosedRow = true:=
 zF (zF (zF (zF (zF (zF (zF (zF (zF (zF (zF (zF (zF (zF (zF (zF (zF (zF (zF (zF (zF (zF (zF (zF (zF (zF (zF (zF (zF (zF (zF ((by kernel_rfl)) laidOut) zcz) (by kernel_rfl)) (by kernel_rfl)) (by kernel_rfl)) za6) (by kernel_rfl)) za8) (by kernel_rfl)) (by kernel_rfl)) (by kernel_rfl)) (by kernel_rfl)) (by kernel_rfl)) (by kernel_rfl)) (by kernel_rfl)) (by kernel_rfl)) (by kernel_rfl)) (by kernel_rfl)) (by kernel_rfl)) (by kernel_rfl)) (by kernel_rfl)) zcy) (by kernel_rfl)) zba) zaT) t_lifted) zcC) (by kernel_rfl)) (by kernel_rfl)) (by kernel_rfl)) (by kernel_rfl)
theorem closed_name:Tryz.prog.funcNamed "isobar/isobarlaw03.ChartClosed" = some 8:=by kernel_rfl
theorem zXo:Tryz.f8.isInstance Tryz.prog Rows.chartClosedRow.origin Rows.chartClosedRow.targs:=of_decide_eq_true (by kernel_rfl)
theorem zXr:Tryz.f8.isWrapper Tryz.prog Rows.chartClosedRow.wrapper Rows.chartClosedRow.mainSum:=by unfold Func.isWrapper; first | (rw [if_pos (by decide +kernel)]; kernel_rfl) | (rw [if_neg (by decide +kernel)]; exact ⟨rfl, rfl⟩)
theorem zWR:Tryz.prog.inits.idxOf? 8 = none:=by kernel_rfl
theorem zXd:(Tryz.f8.params.toList.all fun t=>vH Tryz.prog (8 + 1) t) = true:=by kernel_rfl
theorem zXB:(Tryz.f8.params.toList.all fun t=>Tryz.prog.readableRec t && decide (t < Tryz.prog.types.size)) = true:=by kernel_rfl
theorem zWI {H : Type} (enc : TypeId × Value -> H) (os : Os) : ∃ (w : World) (tape : Tape) (i : Input), w.os = os /\ (w.forCall tape i).Shaped Tryz.checked.prog /\ i.vars = [] /\ Input.okWide Tryz.checked.prog (w.forCall tape i) .any w.heap.size 8 i /\
      ((Rows.chartClosedSpec.pre enc Tryz.checked.prog Tryz.f8 [] false (w.forCall tape i).memory i.args /\ laidMetH Tryz.prog laid3 (w.forCall tape i).memory) /\ sizedMet enc Tryz.checked.prog Tryz.f8 (OpenSpec.ofChange Rows.chartClosedSpec) false (w.forCall tape i).memory i.args) /\ ({}:Assume).holds Tryz.checked.prog (lone (Frame.enter Tryz.checked.prog 8 i.args .normal) [] (w.forCall tape i)):=
  ChangeSpec.witness_shaped (enc:=enc) (C:=Tryz.checked) (os:=os) (X:=fun w _=>laidMetH Tryz.prog laid3 w) false (World.doorLaid Tryz.prog 400 os) #[.agg #[.int .i64 0, .int .i64 0, .int .i64 0, .slice none 0 0], .int .i64 0, .int .i64 0, .bool false, .agg #[.int .i64 0, .slice none 0 0]] 8 rfl (World.shaped_of_RefB (by kernel_rfl) (by kernel_rfl)) (by kernel_rfl) (by kernel_rfl) (by kernel_rfl) (door_met os _)
theorem closed_holds:Rows.ChartClosedSaid:=
 OpenClaim.holds_of_wide 8 Tryz.f8 rfl rfl rfl rfl rfl rfl rfl ⟨rfl, rfl, rfl, rfl, rfl⟩ rfl rfl rfl rfl rfl closed_name Tryz.func8 zXi zXo zXr
  (fun os started H enc _=>lifted os started H enc (s:=Rows.chartClosedSpec) (n:=8) Tryz.func8 zWR zXd zXB rfl rfl
   (fun ds hd=>match ds, hd with | [_, _, _, _, _], _=>rfl) zXI (zWI enc os))
theorem zX8:Rows.chartClosedRow.wfByText (OpenSpec.ofChange Rows.chartClosedSpec) = true:=by kernel_rfl
theorem closed_main:Tryz.pinned.checked.prog.mainIs = some (true, "2d17a4dc9e16d3a73f126c826b77bd7af92222a396f0142bc46a5dacda5c891f".toList):=by kernel_rfl
theorem zWL:(Tryz.f8.params.toList.all fun t=>!Tryz.prog.wantsStandIn t) = true:=by kernel_rfl
theorem zXm:false = Rows.chartClosedRow.goesBy Tryz.prog:=by kernel_rfl
theorem closed_card:Rows.ChartClosedCardSaid:=
 Claim7.holds_tied_plain_at .later [] [.data, .data, .data] true (true, "2d17a4dc9e16d3a73f126c826b77bd7af92222a396f0142bc46a5dacda5c891f") true
  closed_holds (fun _ h=>by cases h) zX8 (fun _ h=>by cases h) chartClosed_row_tie rfl ⟨rfl, rfl⟩ closed_main rfl
  (fun f fn hf hfn=>by
   obtain rfl:f = 8:=Option.some.inj (closed_name.symm.trans hf) |>.symm
   obtain rfl:fn = Tryz.f8:=(Option.some.inj (Tryz.func8.symm.trans hfn)).symm
   refine ⟨yY, fun j t ht=>?_⟩
   have h3:=List.all_eq_true.1 zWL t (by rw [Array.mem_toList_iff]; exact Array.mem_of_getElem? ht)
   have h4:Tryz.prog.wantsStandIn t = false:=by simpa using h3
   exact h4)
  zXm
#print axioms closed_card
end Go.Proofs.YtdjncbjfejdamaaGreatDoor
end
