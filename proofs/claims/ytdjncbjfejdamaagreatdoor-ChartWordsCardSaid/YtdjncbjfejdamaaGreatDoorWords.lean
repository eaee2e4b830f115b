/- ChartWords: for every input the law returns true and leaves its arguments as they were; the program's variables are laid as its text lays them. -/
import Derived.Test.YtdjncbjfejdamaaGreatDoorFrame
import Derived.Test.YtdjncbjfejdamaaGreatDoorExG
import Derived.Test.YtdjncbjfejdamaaGreatDoorChSG
set_option linter.unusedVariables false
set_option linter.unusedSimpArgs false
section
namespace Go.Proofs.YtdjncbjfejdamaaGreatDoor
open Go Go.ChangeShapes Go.WideShapes Go.ChangeAt Go.RowKit Go.Av Go.Bv
set_option maxRecDepth 100000
theorem zZO (xs:List AV) (h:xA Tryz.prog 8 Tryz.f7.params.toList xs):ACall Tryz.prog GT 7 xs (.v (.bool true)):=by
 obtain ⟨x0, _, rfl, h0, g0⟩:=h
 obtain ⟨x1, _, rfl, h1, g1⟩:=g0
 obtain ⟨x2, _, rfl, h2, g2⟩:=g1
 obtain ⟨x3, _, rfl, h3, rfl⟩:=g2
 obtain ⟨a0, rfl⟩:=zVR h0
 obtain ⟨a1, rfl⟩:=zQk h1
 obtain ⟨a2, rfl⟩:=zQk h2
 obtain ⟨a3, rfl⟩:=zYF h3
 exact f7 known a0 a1 a2 a3
theorem zZx:joinedFacts Tryz.prog 7 Tryz.f7 Rows.chartWordsSpec Rows.chartWordsRow = true:=
 zF (zF (zF (zF (zF (zF (zF (zF (zF (zF (zF (zF (zF (zF (zF (zF (zF (zF (zF (zF (zF (zF (zF (zF (zF (zF (zF (zF (zF (zF (zF ((by kernel_rfl)) laidOut) zcz) (by kernel_rfl)) (by kernel_rfl)) (by kernel_rfl)) za6) (by kernel_rfl)) za8) (by kernel_rfl)) (by kernel_rfl)) (by kernel_rfl)) (by kernel_rfl)) (by kernel_rfl)) (by kernel_rfl)) (by kernel_rfl)) (by kernel_rfl)) (by kernel_rfl)) (by kernel_rfl)) (by kernel_rfl)) (by kernel_rfl)) (by kernel_rfl)) zcy) (by kernel_rfl)) zba) zaT) t_lifted) zcC) (by kernel_rfl)) (by kernel_rfl)) (by kernel_rfl)) (by kernel_rfl)
theorem words_name:Tryz.prog.funcNamed "isobar/isobarlaw03.ChartWords" = some 7:=by kernel_rfl
theorem zZD:Tryz.f7.isInstance Tryz.prog Rows.chartWordsRow.origin Rows.chartWordsRow.targs:=of_decide_eq_true (by kernel_rfl)
theorem zZH:Tryz.f7.isWrapper Tryz.prog Rows.chartWordsRow.wrapper Rows.chartWordsRow.mainSum:=by unfold Func.isWrapper; first | (rw [if_pos (by decide +kernel)]; kernel_rfl) | (rw [if_neg (by decide +kernel)]; exact ⟨rfl, rfl⟩)
theorem zZv:Tryz.prog.inits.idxOf? 7 = none:=by kernel_rfl
theorem zZB:(Tryz.f7.params.toList.all fun t=>vH Tryz.prog (8 + 1) t) = true:=by kernel_rfl
theorem zZG:(Tryz.f7.params.toList.all fun t=>Tryz.prog.readableRec t && decide (t < Tryz.prog.types.size)) = true:=by kernel_rfl
theorem zZt {H : Type} (enc : TypeId × Value -> H) (os : Os) : ∃ (w : World) (tape : Tape) (i : Input), w.os = os /\ (w.forCall tape i).Shaped Tryz.checked.prog /\ i.vars = [] /\ Input.okWide Tryz.checked.prog (w.forCall tape i) .any w.heap.size 7 i /\
      ((Rows.chartWordsSpec.pre enc Tryz.checked.prog Tryz.f7 [] false (w.forCall tape i).memory i.args /\ laidMetH Tryz.prog laid3 (w.forCall tape i).memory) /\ sizedMet enc Tryz.checked.prog Tryz.f7 (OpenSpec.ofChange Rows.chartWordsSpec) false (w.forCall tape i).memory i.args) /\ ({}:Assume).holds Tryz.checked.prog (lone (Frame.enter Tryz.checked.prog 7 i.args .normal) [] (w.forCall tape i)):=
  ChangeSpec.witness_shaped (enc:=enc) (C:=Tryz.checked) (os:=os) (X:=fun w _=>laidMetH Tryz.prog laid3 w) false (World.doorLaid Tryz.prog 400 os) #[.agg #[.int .i64 0, .int .i64 0, .int .i64 0, .slice none 0 0], .int .i64 0, .int .i64 0, .bool false] 8 rfl (World.shaped_of_RefB (by kernel_rfl) (by kernel_rfl)) (by kernel_rfl) (by kernel_rfl) (by kernel_rfl) (door_met os _)
theorem zZy:Rows.ChartWordsSaid:=
 OpenClaim.holds_of_wide 7 Tryz.f7 rfl rfl rfl rfl rfl rfl rfl ⟨rfl, rfl, rfl, rfl, rfl⟩ rfl rfl rfl rfl rfl words_name Tryz.func7 zZx zZD zZH
  (fun os started H enc _=>lifted os started H enc (s:=Rows.chartWordsSpec) (n:=8) Tryz.func7 zZv zZB zZG rfl rfl
   (fun ds hd=>match ds, hd with | [_, _, _, _], _=>rfl) zZO (zZt enc os))
theorem words_wf:Rows.chartWordsRow.wfByText (OpenSpec.ofChange Rows.chartWordsSpec) = true:=by kernel_rfl
theorem words_main:Tryz.pinned.checked.prog.mainIs = some (true, "2d17a4dc9e16d3a73f126c826b77bd7af92222a396f0142bc46a5dacda5c891f".toList):=by kernel_rfl
theorem zZs:(Tryz.f7.params.toList.all fun t=>!Tryz.prog.wantsStandIn t) = true:=by kernel_rfl
theorem zZE:false = Rows.chartWordsRow.goesBy Tryz.prog:=by kernel_rfl
theorem words_card:Rows.ChartWordsCardSaid:=
 Claim7.holds_tied_plain_at .later [] [.data, .data, .data] true (true, "2d17a4dc9e16d3a73f126c826b77bd7af92222a396f0142bc46a5dacda5c891f") true
  zZy (fun _ h=>by cases h) words_wf (fun _ h=>by cases h) chartWords_row_tie rfl ⟨rfl, rfl⟩ words_main rfl
  (fun f fn hf hfn=>by
   obtain rfl:f = 7:=Option.some.inj (words_name.symm.trans hf) |>.symm
   obtain rfl:fn = Tryz.f7:=(Option.some.inj (Tryz.func7.symm.trans hfn)).symm
   refine ⟨yY, fun j t ht=>?_⟩
   have h3:=List.all_eq_true.1 zZs t (by rw [Array.mem_toList_iff]; exact Array.mem_of_getElem? ht)
   have h4:Tryz.prog.wantsStandIn t = false:=by simpa using h3
   exact h4)
  zZE
#print axioms words_card
end Go.Proofs.YtdjncbjfejdamaaGreatDoor
end
