/- ChartDrawn: for every input the law returns true and leaves its arguments as they were; the program's variables are laid as its text lays them. -/
import Derived.Test.YtdjncbjfejdamaaGreatDoorFrame
import Derived.Test.YtdjncbjfejdamaaGreatDoorExG
import Derived.Test.YtdjncbjfejdamaaGreatDoorChO
set_option linter.unusedVariables false
set_option linter.unusedSimpArgs false
section
namespace Go.Proofs.YtdjncbjfejdamaaGreatDoor
open Go Go.ChangeShapes Go.WideShapes Go.ChangeAt Go.RowKit Go.Av Go.Bv
set_option maxRecDepth 100000
theorem zVk (xs:List AV) (h:xA Tryz.prog 8 Tryz.f14.params.toList xs):ACall Tryz.prog GT 14 xs (.v (.bool true)):=by
 obtain ⟨x0, _, rfl, h0, g0⟩:=h
 obtain ⟨x1, _, rfl, h1, g1⟩:=g0
 obtain ⟨x2, _, rfl, h2, rfl⟩:=g1
 obtain ⟨a0, rfl⟩:=zVR h0
 obtain ⟨a1, rfl⟩:=zQj h1
 obtain ⟨a2, rfl⟩:=zQk h2
 exact f14 known a0 a1 a2
theorem zU0:joinedFacts Tryz.prog 14 Tryz.f14 Rows.chartDrawnSpec Rows.chartDrawnRow = true:=
 zF (zF (zF (zF (zF (zF (zF (zF (zF (zF (zF (zF (zF (zF (zF (zF (zF (zF (zF (zF (zF (zF (zF (zF (zF (zF (zF (zF (zF (zF (zF ((by kernel_rfl)) laidOut) zcz) (by kernel_rfl)) (by kernel_rfl)) (by kernel_rfl)) za6) (by kernel_rfl)) za8) (by kernel_rfl)) (by kernel_rfl)) (by kernel_rfl)) (by kernel_rfl)) (by kernel_rfl)) (by kernel_rfl)) (by kernel_rfl)) (by kernel_rfl)) (by kernel_rfl)) (by kernel_rfl)) (by kernel_rfl)) (by kernel_rfl)) (by kernel_rfl)) zcy) (by kernel_rfl)) zba) zaT) t_lifted) zcC) (by kernel_rfl)) (by kernel_rfl)) (by kernel_rfl)) (by kernel_rfl)
theorem drawn_name:Tryz.prog.funcNamed "isobar/isobarlaw03.ChartDrawn" = some 14:=by kernel_rfl
theorem zU6:Tryz.f14.isInstance Tryz.prog Rows.chartDrawnRow.origin Rows.chartDrawnRow.targs:=of_decide_eq_true (by kernel_rfl)
theorem zU7:Tryz.f14.isWrapper Tryz.prog Rows.chartDrawnRow.wrapper Rows.chartDrawnRow.mainSum:=by unfold Func.isWrapper; first | (rw [if_pos (by decide +kernel)]; kernel_rfl) | (rw [if_neg (by decide +kernel)]; exact ⟨rfl, rfl⟩)
theorem zUS:Tryz.prog.inits.idxOf? 14 = none:=by kernel_rfl
theorem zU1:(Tryz.f14.params.toList.all fun t=>vH Tryz.prog (8 + 1) t) = true:=by kernel_rfl
theorem zU5:(Tryz.f14.params.toList.all fun t=>Tryz.prog.readableRec t && decide (t < Tryz.prog.types.size)) = true:=by kernel_rfl
theorem zUP {H : Type} (enc : TypeId × Value -> H) (os : Os) : ∃ (w : World) (tape : Tape) (i : Input), w.os = os /\ (w.forCall tape i).Shaped Tryz.checked.prog /\ i.vars = [] /\ Input.okWide Tryz.checked.prog (w.forCall tape i) .any w.heap.size 14 i /\
      ((Rows.chartDrawnSpec.pre enc Tryz.checked.prog Tryz.f14 [] false (w.forCall tape i).memory i.args /\ laidMetH Tryz.prog laid3 (w.forCall tape i).memory) /\ sizedMet enc Tryz.checked.prog Tryz.f14 (OpenSpec.ofChange Rows.chartDrawnSpec) false (w.forCall tape i).memory i.args) /\ ({}:Assume).holds Tryz.checked.prog (lone (Frame.enter Tryz.checked.prog 14 i.args .normal) [] (w.forCall tape i)):=
  ChangeSpec.witness_shaped (enc:=enc) (C:=Tryz.checked) (os:=os) (X:=fun w _=>laidMetH Tryz.prog laid3 w) false (World.doorLaid Tryz.prog 400 os) #[.agg #[.int .i64 0, .int .i64 0, .int .i64 0, .slice none 0 0], .agg #[.int .i64 0, .slice none 0 0], .int .i64 0] 8 rfl (World.shaped_of_RefB (by kernel_rfl) (by kernel_rfl)) (by kernel_rfl) (by kernel_rfl) (by kernel_rfl) (door_met os _)
theorem zUX:Rows.ChartDrawnSaid:=
 OpenClaim.holds_of_wide 14 Tryz.f14 rfl rfl rfl rfl rfl rfl rfl ⟨rfl, rfl, rfl, rfl, rfl⟩ rfl rfl rfl rfl rfl drawn_name Tryz.func14 zU0 zU6 zU7
  (fun os started H enc _=>lifted os started H enc (s:=Rows.chartDrawnSpec) (n:=8) Tryz.func14 zUS zU1 zU5 rfl rfl
   (fun ds hd=>match ds, hd with | [_, _, _], _=>rfl) zVk (zUP enc os))
theorem zVr:Rows.chartDrawnRow.wfByText (OpenSpec.ofChange Rows.chartDrawnSpec) = true:=by kernel_rfl
theorem drawn_main:Tryz.pinned.checked.prog.mainIs = some (true, "2d17a4dc9e16d3a73f126c826b77bd7af92222a396f0142bc46a5dacda5c891f".toList):=by kernel_rfl
theorem zUO:(Tryz.f14.params.toList.all fun t=>!Tryz.prog.wantsStandIn t) = true:=by kernel_rfl
theorem zU8:false = Rows.chartDrawnRow.goesBy Tryz.prog:=by kernel_rfl
theorem drawn_card:Rows.ChartDrawnCardSaid:=
 Claim7.holds_tied_plain_at .later [] [.data, .data, .data] true (true, "2d17a4dc9e16d3a73f126c826b77bd7af92222a396f0142bc46a5dacda5c891f") true
  zUX (fun _ h=>by cases h) zVr (fun _ h=>by cases h) chartDrawn_row_tie rfl ⟨rfl, rfl⟩ drawn_main rfl
  (fun f fn hf hfn=>by
   obtain rfl:f = 14:=Option.some.inj (drawn_name.symm.trans hf) |>.symm
   obtain rfl:fn = Tryz.f14:=(Option.some.inj (Tryz.func14.symm.trans hfn)).symm
   refine ⟨yY, fun j t ht=>?_⟩
   have h3:=List.all_eq_true.1 zUO t (by rw [Array.mem_toList_iff]; exact Array.mem_of_getElem? ht)
   have h4:Tryz.prog.wantsStandIn t = false:=by simpa using h3
   exact h4)
  zU8
#print axioms drawn_card
end Go.Proofs.YtdjncbjfejdamaaGreatDoor
end
