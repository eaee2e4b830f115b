/- ChartLines: for every input the law returns true and leaves its arguments as they were; the program's variables are laid as its text lays them. -/
import Derived.Test.YtdjncbjfejdamaaGreatDoorFrame
import Derived.Test.YtdjncbjfejdamaaGreatDoorExG
import Derived.Test.YtdjncbjfejdamaaGreatDoorChLN
set_option linter.unusedVariables false
set_option linter.unusedSimpArgs false
section
namespace Go.Proofs.YtdjncbjfejdamaaGreatDoor
open Go Go.ChangeShapes Go.WideShapes Go.ChangeAt Go.RowKit Go.Av Go.Bv
set_option maxRecDepth 100000
theorem zNw (xs:List AV) (h:xA Tryz.prog 8 Tryz.f4.params.toList xs):ACall Tryz.prog GT 4 xs (.v (.bool true)):=by
 obtain ⟨x0, _, rfl, h0, g0⟩:=h
 obtain ⟨x1, _, rfl, h1, rfl⟩:=g0
 obtain ⟨a0, rfl⟩:=zQj h0
 obtain ⟨a1, rfl⟩:=zQk h1
 exact f4 known a0 a1
theorem zSC:joinedFacts Tryz.prog 4 Tryz.f4 Rows.chartLinesSpec Rows.chartLinesRow = true:=
 zF (zF (zF (zF (zF (zF (zF (zF (zF (zF (zF (zF (zF (zF (zF (zF (zF (zF (zF (zF (zF (zF (zF (zF (zF (zF (zF (zF (zF (zF (zF ((by kernel_rfl)) laidOut) zcz) (by kernel_rfl)) (by kernel_rfl)) (by kernel_rfl)) za6) (by kernel_rfl)) za8) (by kernel_rfl)) (by kernel_rfl)) (by kernel_rfl)) (by kernel_rfl)) (by kernel_rfl)) (by kernel_rfl)) (by kernel_rfl)) (by kernel_rfl)) (by kernel_rfl)) (by kernel_rfl)) (by kernel_rfl)) (by kernel_rfl)) (by kernel_rfl)) zcy) (by kernel_rfl)) zba) zaT) t_lifted) zcC) (by kernel_rfl)) (by kernel_rfl)) (by kernel_rfl)) (by kernel_rfl)
theorem lines_name:Tryz.prog.funcNamed "isobar/isobarlaw03.ChartLines" = some 4:=by kernel_rfl
theorem zMt:Tryz.f4.isInstance Tryz.prog Rows.chartLinesRow.origin Rows.chartLinesRow.targs:=of_decide_eq_true (by kernel_rfl)
theorem zMl:Tryz.f4.isWrapper Tryz.prog Rows.chartLinesRow.wrapper Rows.chartLinesRow.mainSum:=by unfold Func.isWrapper; first | (rw [if_pos (by decide +kernel)]; kernel_rfl) | (rw [if_neg (by decide +kernel)]; exact ⟨rfl, rfl⟩)
theorem zR5:Tryz.prog.inits.idxOf? 4 = none:=by kernel_rfl
theorem zSy:(Tryz.f4.params.toList.all fun t=>vH Tryz.prog (8 + 1) t) = true:=by kernel_rfl
theorem zMd:(Tryz.f4.params.toList.all fun t=>Tryz.prog.readableRec t && decide (t < Tryz.prog.types.size)) = true:=by kernel_rfl
theorem zKH {H : Type} (enc : TypeId × Value -> H) (os : Os) : ∃ (w : World) (tape : Tape) (i : Input), w.os = os /\ (w.forCall tape i).Shaped Tryz.checked.prog /\ i.vars = [] /\ Input.okWide Tryz.checked.prog (w.forCall tape i) .any w.heap.size 4 i /\
      ((Rows.chartLinesSpec.pre enc Tryz.checked.prog Tryz.f4 [] false (w.forCall tape i).memory i.args /\ laidMetH Tryz.prog laid3 (w.forCall tape i).memory) /\ sizedMet enc Tryz.checked.prog Tryz.f4 (OpenSpec.ofChange Rows.chartLinesSpec) false (w.forCall tape i).memory i.args) /\ ({}:Assume).holds Tryz.checked.prog (lone (Frame.enter Tryz.checked.prog 4 i.args .normal) [] (w.forCall tape i)):=
  ChangeSpec.witness_shaped (enc:=enc) (C:=Tryz.checked) (os:=os) (X:=fun w _=>laidMetH Tryz.prog laid3 w) false (World.doorLaid Tryz.prog 400 os) #[.agg #[.int .i64 0, .slice none 0 0], .int .i64 0] 8 rfl (World.shaped_of_RefB (by kernel_rfl) (by kernel_rfl)) (by kernel_rfl) (by kernel_rfl) (by kernel_rfl) (door_met os _)
theorem lines_holds:Rows.ChartLinesSaid:=
 OpenClaim.holds_of_wide 4 Tryz.f4 rfl rfl rfl rfl rfl rfl rfl ⟨rfl, rfl, rfl, rfl, rfl⟩ rfl rfl rfl rfl rfl lines_name Tryz.func4 zSC zMt zMl
  (fun os started H enc _=>lifted os started H enc (s:=Rows.chartLinesSpec) (n:=8) Tryz.func4 zR5 zSy zMd rfl rfl
   (fun ds hd=>match ds, hd with | [_, _], _=>rfl) zNw (zKH enc os))
theorem zN7:Rows.chartLinesRow.wfByText (OpenSpec.ofChange Rows.chartLinesSpec) = true:=by kernel_rfl
theorem lines_main:Tryz.pinned.checked.prog.mainIs = some (true, "2d17a4dc9e16d3a73f126c826b77bd7af92222a396f0142bc46a5dacda5c891f".toList):=by kernel_rfl
theorem zKG:(Tryz.f4.params.toList.all fun t=>!Tryz.prog.wantsStandIn t) = true:=by kernel_rfl
theorem zSM:false = Rows.chartLinesRow.goesBy Tryz.prog:=by kernel_rfl
theorem lines_card:Rows.ChartLinesCardSaid:=
 Claim7.holds_tied_plain_at .later [] [.data, .data, .data] true (true, "2d17a4dc9e16d3a73f126c826b77bd7af92222a396f0142bc46a5dacda5c891f") true
  lines_holds (fun _ h=>by cases h) zN7 (fun _ h=>by cases h) chartLines_row_tie rfl ⟨rfl, rfl⟩ lines_main rfl
  (fun f fn hf hfn=>by
   obtain rfl:f = 4:=Option.some.inj (lines_name.symm.trans hf) |>.symm
   obtain rfl:fn = Tryz.f4:=(Option.some.inj (Tryz.func4.symm.trans hfn)).symm
   refine ⟨yY, fun j t ht=>?_⟩
   have h3:=List.all_eq_true.1 zKG t (by rw [Array.mem_toList_iff]; exact Array.mem_of_getElem? ht)
   have h4:Tryz.prog.wantsStandIn t = false:=by simpa using h3
   exact h4)
  zSM
#print axioms lines_card
end Go.Proofs.YtdjncbjfejdamaaGreatDoor
end
