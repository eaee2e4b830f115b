/- ChartApart: for every input the law returns true and leaves its arguments as they were; the program's variables are laid as its text lays them. -/
import Derived.Test.YtdjncbjfejdamaaGreatDoorFrame
import Derived.Test.YtdjncbjfejdamaaGreatDoorExG
import Derived.Test.YtdjncbjfejdamaaGreatDoorChLQ
set_option linter.unusedVariables false
set_option linter.unusedSimpArgs false
section
namespace Go.Proofs.YtdjncbjfejdamaaGreatDoor
open Go Go.ChangeShapes Go.WideShapes Go.ChangeAt Go.RowKit Go.Av Go.Bv
set_option maxRecDepth 100000
theorem zUm (xs:List AV) (h:xA Tryz.prog 8 Tryz.f6.params.toList xs):ACall Tryz.prog GT 6 xs (.v (.bool true)):=by
 obtain ⟨x0, _, rfl, h0, g0⟩:=h
 obtain ⟨x1, _, rfl, h1, g1⟩:=g0
 obtain ⟨x2, _, rfl, h2, rfl⟩:=g1
 obtain ⟨a0, rfl⟩:=zQj h0
 obtain ⟨a1, rfl⟩:=zQk h1
 obtain ⟨a2, rfl⟩:=zQk h2
 exact f6 known a0 a1 a2
theorem zUh:joinedFacts Tryz.prog 6 Tryz.f6 Rows.chartApartSpec Rows.chartApartRow = true:=
 zF (zF (zF (zF (zF (zF (zF (zF (zF (zF (zF (zF (zF (zF (zF (zF (zF (zF (zF (zF (zF (zF (zF (zF (zF (zF (zF (zF (zF (zF (zF ((by kernel_rfl)) laidOut) zcz) (by kernel_rfl)) (by kernel_rfl)) (by kernel_rfl)) za6) (by kernel_rfl)) za8) (by kernel_rfl)) (by kernel_rfl)) (by kernel_rfl)) (by kernel_rfl)) (by kernel_rfl)) (by kernel_rfl)) (by kernel_rfl)) (by kernel_rfl)) (by kernel_rfl)) (by kernel_rfl)) (by kernel_rfl)) (by kernel_rfl)) (by kernel_rfl)) zcy) (by kernel_rfl)) zba) zaT) t_lifted) zcC) (by kernel_rfl)) (by kernel_rfl)) (by kernel_rfl)) (by kernel_rfl)
theorem apart_name:Tryz.prog.funcNamed "isobar/isobarlaw03.ChartApart" = some 6:=by kernel_rfl
theorem zUi:Tryz.f6.isInstance Tryz.prog Rows.chartApartRow.origin Rows.chartApartRow.targs:=of_decide_eq_true (by kernel_rfl)
theorem zUj:Tryz.f6.isWrapper Tryz.prog Rows.chartApartRow.wrapper Rows.chartApartRow.mainSum:=by unfold Func.isWrapper; first | (rw [if_pos (by decide +kernel)]; kernel_rfl) | (rw [if_neg (by decide +kernel)]; exact ⟨rfl, rfl⟩)
theorem zUc:Tryz.prog.inits.idxOf? 6 = none:=by kernel_rfl
theorem zUg:(Tryz.f6.params.toList.all fun t=>vH Tryz.prog (8 + 1) t) = true:=by kernel_rfl
theorem zUk:(Tryz.f6.params.toList.all fun t=>Tryz.prog.readableRec t && decide (t < Tryz.prog.types.size)) = true:=by kernel_rfl
theorem zT9 {H : Type} (enc : TypeId × Value -> H) (os : Os) : ∃ (w : World) (tape : Tape) (i : Input), w.os = os /\ (w.forCall tape i).Shaped Tryz.checked.prog /\ i.vars = [] /\ Input.okWide Tryz.checked.prog (w.forCall tape i) .any w.heap.size 6 i /\
      ((Rows.chartApartSpec.pre enc Tryz.checked.prog Tryz.f6 [] false (w.forCall tape i).memory i.args /\ laidMetH Tryz.prog laid3 (w.forCall tape i).memory) /\ sizedMet enc Tryz.checked.prog Tryz.f6 (OpenSpec.ofChange Rows.chartApartSpec) false (w.forCall tape i).memory i.args) /\ ({}:Assume).holds Tryz.checked.prog (lone (Frame.enter Tryz.checked.prog 6 i.args .normal) [] (w.forCall tape i)):=
  ChangeSpec.witness_shaped (enc:=enc) (C:=Tryz.checked) (os:=os) (X:=fun w _=>laidMetH Tryz.prog laid3 w) false (World.doorLaid Tryz.prog 400 os) #[.agg #[.int .i64 0, .slice none 0 0], .int .i64 0, .int .i64 0] 8 rfl (World.shaped_of_RefB (by kernel_rfl) (by kernel_rfl)) (by kernel_rfl) (by kernel_rfl) (by kernel_rfl) (door_met os _)
theorem zUf:Rows.ChartApartSaid:=
 OpenClaim.holds_of_wide 6 Tryz.f6 rfl rfl rfl rfl rfl rfl rfl ⟨rfl, rfl, rfl, rfl, rfl⟩ rfl rfl rfl rfl rfl apart_name Tryz.func6 zUh zUi zUj
  (fun os started H enc _=>lifted os started H enc (s:=Rows.chartApartSpec) (n:=8) Tryz.func6 zUc zUg zUk rfl rfl
   (fun ds hd=>match ds, hd with | [_, _, _], _=>rfl) zUm (zT9 enc os))
theorem zUp:Rows.chartApartRow.wfByText (OpenSpec.ofChange Rows.chartApartSpec) = true:=by kernel_rfl
theorem apart_main:Tryz.pinned.checked.prog.mainIs = some (true, "2d17a4dc9e16d3a73f126c826b77bd7af92222a396f0142bc46a5dacda5c891f".toList):=by kernel_rfl
theorem zUa:(Tryz.f6.params.toList.all fun t=>!Tryz.prog.wantsStandIn t) = true:=by kernel_rfl
theorem zUl:false = Rows.chartApartRow.goesBy Tryz.prog:=by kernel_rfl
theorem apart_card:Rows.ChartApartCardSaid:=
 Claim7.holds_tied_plain_at .later [] [.data, .data, .data] true (true, "2d17a4dc9e16d3a73f126c826b77bd7af92222a396f0142bc46a5dacda5c891f") true
  zUf (fun _ h=>by cases h) zUp (fun _ h=>by cases h) chartApart_row_tie rfl ⟨rfl, rfl⟩ apart_main rfl
  (fun f fn hf hfn=>by
   obtain rfl:f = 6:=Option.some.inj (apart_name.symm.trans hf) |>.symm
   obtain rfl:fn = Tryz.f6:=(Option.some.inj (Tryz.func6.symm.trans hfn)).symm
   refine ⟨yY, fun j t ht=>?_⟩
   have h3:=List.all_eq_true.1 zUa t (by rw [Array.mem_toList_iff]; exact Array.mem_of_getElem? ht)
   have h4:Tryz.prog.wantsStandIn t = false:=by simpa using h3
   exact h4)
  zUl
#print axioms apart_card
end Go.Proofs.YtdjncbjfejdamaaGreatDoor
end
