import Derived.Test.YtgmbdadkbominaaGreatDoorArgs
set_option linter.unusedVariables false
set_option linter.unusedSimpArgs false
section
namespace Go.Proofs.YtgmbdadkbominaaGreatDoor
open Go Go.ChangeShapes Go.WideShapes Go.ChangeAt Go.RowKit Go.Av Go.Bv
set_option maxRecDepth 100000
theorem zwg (xs:List AV) (h:zh1 Tryz.prog 8 Tryz.f5.params.toList xs):ACall Tryz.prog GT 5 xs (.v (.bool true)):=by
 obtain ⟨x0, _, rfl, h0, g0⟩:=h
 obtain ⟨x1, _, rfl, h1, g1⟩:=g0
 obtain ⟨x2, _, rfl, h2, rfl⟩:=g1
 obtain ⟨a0, rfl⟩:=zyO h0
 obtain ⟨a1, rfl⟩:=zkJ h1
 obtain ⟨a2, rfl⟩:=zkJ h2
 exact Tp.f5 known a0 a1 a2
theorem zvF:joinedFacts Tryz.prog 5 Tryz.f5 Rows.topFollowsSpec Rows.topFollowsRow = true:=
 jW (jW (jW (jW (jW (jW (jW (jW (jW (jW (jW (jW (jW (jW (jW (jW (jW (jW (jW (jW (jW (jW (jW (jW (jW (jW (jW (jW (jW (jW (jW ((by kernel_rfl)) laidOut) zsA) (by kernel_rfl)) (by kernel_rfl)) (by kernel_rfl)) zq2) (by kernel_rfl)) zpF) (by kernel_rfl)) (by kernel_rfl)) (by kernel_rfl)) (by kernel_rfl)) (by kernel_rfl)) (by kernel_rfl)) (by kernel_rfl)) (by kernel_rfl)) (by kernel_rfl)) (by kernel_rfl)) (by kernel_rfl)) (by kernel_rfl)) (by kernel_rfl)) zsw) (by kernel_rfl)) zqh) zqg) t_lifted) zsg) (by kernel_rfl)) (by kernel_rfl)) (by kernel_rfl)) (by kernel_rfl)
theorem follows_name:Tryz.prog.funcNamed "isobar/isobartop.TopFollows" = some 5:=by kernel_rfl
theorem zv9:Tryz.f5.isInstance Tryz.prog Rows.topFollowsRow.origin Rows.topFollowsRow.targs:=of_decide_eq_true (by kernel_rfl)
theorem zvX:Tryz.f5.isWrapper Tryz.prog Rows.topFollowsRow.wrapper Rows.topFollowsRow.mainSum:=by unfold Func.isWrapper; first | (rw [if_pos (by decide +kernel)]; kernel_rfl) | (rw [if_neg (by decide +kernel)]; exact ⟨rfl, rfl⟩)
theorem zvB:Tryz.prog.inits.idxOf? 5 = none:=by kernel_rfl
theorem zvH:(Tryz.f5.params.toList.all fun t=>kY Tryz.prog (8 + 1) t) = true:=by kernel_rfl
theorem zvU:(Tryz.f5.params.toList.all fun t=>Tryz.prog.readableRec t && decide (t < Tryz.prog.types.size)) = true:=by kernel_rfl
theorem zvm {H : Type} (enc : TypeId × Value -> H) (os : Os) : ∃ (w : World) (tape : Tape) (i : Input), w.os = os /\ (w.forCall tape i).Shaped Tryz.checked.prog /\ i.vars = [] /\ Input.okWide Tryz.checked.prog (w.forCall tape i) .any w.heap.size 5 i /\
      ((Rows.topFollowsSpec.pre enc Tryz.checked.prog Tryz.f5 [] false (w.forCall tape i).memory i.args /\ laidMetH Tryz.prog laid5 (w.forCall tape i).memory) /\ sizedMet enc Tryz.checked.prog Tryz.f5 (OpenSpec.ofChange Rows.topFollowsSpec) false (w.forCall tape i).memory i.args) /\ ({}:Assume).holds Tryz.checked.prog (lone (Frame.enter Tryz.checked.prog 5 i.args .normal) [] (w.forCall tape i)):=
  ChangeSpec.witness_shaped (enc:=enc) (C:=Tryz.checked) (os:=os) (X:=fun w _=>laidMetH Tryz.prog laid5 w) false (World.laidAll Tryz.prog os laid5) #[.slice none 0 0, .int .i64 0, .int .i64 0] 8 (World.laidAll_os _ _ _) (zp4 os _) (by kernel_rfl) (by kernel_rfl) (by kernel_rfl) (zmA os _)
theorem zvG:Rows.TopFollowsSaid:=
 OpenClaim.holds_of_wide 5 Tryz.f5 rfl rfl rfl rfl rfl rfl rfl ⟨rfl, rfl, rfl, rfl, rfl⟩ rfl rfl rfl rfl rfl follows_name Tryz.func5 zvF zv9 zvX
  (fun os started H enc _=>zp3 zij os started H enc (s:=Rows.topFollowsSpec) (n:=8) Tryz.func5 zvB zvH zvU rfl rfl
   (fun ds hd=>match ds, hd with | [_, _, _], _=>rfl) zwg (zvm enc os))
theorem zwv:Rows.topFollowsRow.wfByText (OpenSpec.ofChange Rows.topFollowsSpec) = true:=by kernel_rfl
theorem follows_main:Tryz.pinned.checked.prog.mainIs = some (true, "289a431fdb2263323ffb0e056d38a7967f485279947c01e59e404db151fb7b09".toList):=by kernel_rfl
theorem zvn:(Tryz.f5.params.toList.all fun t=>!Tryz.prog.wantsStandIn t) = true:=by kernel_rfl
theorem zvS:false = Rows.topFollowsRow.goesBy Tryz.prog:=zmZ ztV _
theorem follows_card:Rows.TopFollowsCardSaid:=
 Claim7.holds_tied_plain_at .later [] [.data, .data, .data, .data, .pinned] true (true, "289a431fdb2263323ffb0e056d38a7967f485279947c01e59e404db151fb7b09") true
  zvG (fun _ h=>by cases h) zwv (fun _ h=>by cases h) topFollows_row_tie rfl ⟨rfl, rfl⟩ follows_main rfl
  (fun f fn hf hfn=>by
   obtain rfl:f = 5:=Option.some.inj (follows_name.symm.trans hf) |>.symm
   obtain rfl:fn = Tryz.f5:=(Option.some.inj (Tryz.func5.symm.trans hfn)).symm
   refine ⟨zmS, fun j t ht=>?_⟩
   have h3:=List.all_eq_true.1 zvn t (by rw [Array.mem_toList_iff]; exact Array.mem_of_getElem? ht)
   have h4:Tryz.prog.wantsStandIn t = false:=by simpa using h3
   exact h4)
  zvS
#print axioms follows_card
end Go.Proofs.YtgmbdadkbominaaGreatDoor
end
