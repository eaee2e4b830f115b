/- WireShown: for every input the law returns true and leaves its arguments as they were; the program's variables are laid as its text lays them. -/
import Derived.Test.YtaphehlgijlfeaaGreatDoorFrame
import Derived.Test.YtaphehlgijlfeaaGreatDoorExK
import Derived.Test.YtaphehlgijlfeaaGreatDoorWiX7
set_option linter.unusedVariables false
set_option linter.unusedSimpArgs false
section
namespace Go.Proofs.YtaphehlgijlfeaaGreatDoor
open Go Go.ChangeShapes Go.WideShapes Go.ChangeAt Go.RowKit Go.Av Go.Bv
set_option maxRecDepth 100000
theorem zG0 (xs:List AV) (h:xA Tryz.prog 8 Tryz.f6.params.toList xs):ACall Tryz.prog GT 6 xs (.v (.bool true)):=by
 obtain ⟨x0, _, rfl, h0, g0⟩:=h
 obtain ⟨x1, _, rfl, h1, g1⟩:=g0
 obtain ⟨x2, _, rfl, h2, rfl⟩:=g1
 obtain ⟨a0, rfl⟩:=zdQ h0
 obtain ⟨a1, rfl⟩:=zj1 h1
 obtain ⟨a2, rfl⟩:=zvR h2
 exact f6 known a0 a1 a2
theorem zGL:joinedFacts Tryz.prog 6 Tryz.f6 Rows.wireShownSpec Rows.wireShownRow = true:=
 zF (zF (zF (zF (zF (zF (zF (zF (zF (zF (zF (zF (zF (zF (zF (zF (zF (zF (zF (zF (zF (zF (zF (zF (zF (zF (zF (zF (zF (zF (zF ((by kernel_rfl)) laidOut) zcz) (by kernel_rfl)) (by kernel_rfl)) (by kernel_rfl)) za6) (by kernel_rfl)) za8) (by kernel_rfl)) (by kernel_rfl)) (by kernel_rfl)) (by kernel_rfl)) (by kernel_rfl)) (by kernel_rfl)) (by kernel_rfl)) (by kernel_rfl)) (by kernel_rfl)) (by kernel_rfl)) (by kernel_rfl)) (by kernel_rfl)) (by kernel_rfl)) zcy) (by kernel_rfl)) zba) zaT) t_lifted) zcC) (by kernel_rfl)) (by kernel_rfl)) (by kernel_rfl)) (by kernel_rfl)
theorem shown_name:Tryz.prog.funcNamed "isobar/isobarlaw02.WireShown" = some 6:=by kernel_rfl
theorem zGU:Tryz.f6.isInstance Tryz.prog Rows.wireShownRow.origin Rows.wireShownRow.targs:=of_decide_eq_true (by kernel_rfl)
theorem zGW:Tryz.f6.isWrapper Tryz.prog Rows.wireShownRow.wrapper Rows.wireShownRow.mainSum:=by unfold Func.isWrapper; first | (rw [if_pos (by decide +kernel)]; kernel_rfl) | (rw [if_neg (by decide +kernel)]; exact ⟨rfl, rfl⟩)
theorem zGJ:Tryz.prog.inits.idxOf? 6 = none:=by kernel_rfl
theorem zGK:(Tryz.f6.params.toList.all fun t=>vH Tryz.prog (8 + 1) t) = true:=by kernel_rfl
theorem zGX:(Tryz.f6.params.toList.all fun t=>Tryz.prog.readableRec t && decide (t < Tryz.prog.types.size)) = true:=by kernel_rfl
theorem zGE {H : Type} (enc : TypeId × Value -> H) (os : Os) : ∃ (w : World) (tape : Tape) (i : Input), w.os = os /\ (w.forCall tape i).Shaped Tryz.checked.prog /\ i.vars = [] /\ Input.okWide Tryz.checked.prog (w.forCall tape i) .any w.heap.size 6 i /\
      ((Rows.wireShownSpec.pre enc Tryz.checked.prog Tryz.f6 [] false (w.forCall tape i).memory i.args /\ laidMetH Tryz.prog laid3 (w.forCall tape i).memory) /\ sizedMet enc Tryz.checked.prog Tryz.f6 (OpenSpec.ofChange Rows.wireShownSpec) false (w.forCall tape i).memory i.args) /\ ({}:Assume).holds Tryz.checked.prog (lone (Frame.enter Tryz.checked.prog 6 i.args .normal) [] (w.forCall tape i)):=
  ChangeSpec.witness_shaped (enc:=enc) (C:=Tryz.checked) (os:=os) (X:=fun w _=>laidMetH Tryz.prog laid3 w) false (World.doorLaid Tryz.prog 400 os) #[.agg #[.slice none 0 0, .slice none 0 0, .int .i64 0], .slice none 0 0, .slice none 0 0] 8 rfl (World.shaped_of_RefB (by kernel_rfl) (by kernel_rfl)) (by kernel_rfl) (by kernel_rfl) (by kernel_rfl) (door_met os _)
theorem zGM:Rows.WireShownSaid:=
 OpenClaim.holds_of_wide 6 Tryz.f6 rfl rfl rfl rfl rfl rfl rfl ⟨rfl, rfl, rfl, rfl, rfl⟩ rfl rfl rfl rfl rfl shown_name Tryz.func6 zGL zGU zGW
  (fun os started H enc _=>lifted os started H enc (s:=Rows.wireShownSpec) (n:=8) Tryz.func6 zGJ zGK zGX rfl rfl
   (fun ds hd=>match ds, hd with | [_, _, _], _=>rfl) zG0 (zGE enc os))
theorem zG5:Rows.wireShownRow.wfByText (OpenSpec.ofChange Rows.wireShownSpec) = true:=by kernel_rfl
theorem shown_main:Tryz.pinned.checked.prog.mainIs = some (true, "faf32b471a4046c26054fd80b9544b2851aca4c527019fae6cdd7dbae78c9e5d".toList):=by kernel_rfl
theorem zGD:(Tryz.f6.params.toList.all fun t=>!Tryz.prog.wantsStandIn t) = true:=by kernel_rfl
theorem zGV:false = Rows.wireShownRow.goesBy Tryz.prog:=by kernel_rfl
theorem shown_card:Rows.WireShownCardSaid:=
 Claim7.holds_tied_plain_at .later [] [.data, .data, .data] true (true, "faf32b471a4046c26054fd80b9544b2851aca4c527019fae6cdd7dbae78c9e5d") true
  zGM (fun _ h=>by cases h) zG5 (fun _ h=>by cases h) wireShown_row_tie rfl ⟨rfl, rfl⟩ shown_main rfl
  (fun f fn hf hfn=>by
   obtain rfl:f = 6:=Option.some.inj (shown_name.symm.trans hf) |>.symm
   obtain rfl:fn = Tryz.f6:=(Option.some.inj (Tryz.func6.symm.trans hfn)).symm
   refine ⟨yY, fun j t ht=>?_⟩
   have h3:=List.all_eq_true.1 zGD t (by rw [Array.mem_toList_iff]; exact Array.mem_of_getElem? ht)
   have h4:Tryz.prog.wantsStandIn t = false:=by simpa using h3
   exact h4)
  zGV
#print axioms shown_card
end Go.Proofs.YtaphehlgijlfeaaGreatDoor
end
