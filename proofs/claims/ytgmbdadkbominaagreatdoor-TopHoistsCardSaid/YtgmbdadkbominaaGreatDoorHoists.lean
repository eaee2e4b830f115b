import Derived.Test.YtgmbdadkbominaaGreatDoorArgs
set_option linter.unusedVariables false
set_option linter.unusedSimpArgs false
section
namespace Go.Proofs.YtgmbdadkbominaaGreatDoor
open Go Go.ChangeShapes Go.WideShapes Go.ChangeAt Go.RowKit Go.Av Go.Bv
set_option maxRecDepth 100000
theorem zA7 (xs:List AV) (h:zh1 Tryz.prog 8 Tryz.f3.params.toList xs):ACall Tryz.prog GT 3 xs (.v (.bool true)):=by
 obtain ⟨x0, _, rfl, h0, g0⟩:=h
 obtain ⟨x1, _, rfl, h1, g1⟩:=g0
 obtain ⟨x2, _, rfl, h2, g2⟩:=g1
 obtain ⟨x3, _, rfl, h3, g3⟩:=g2
 obtain ⟨x4, _, rfl, h4, rfl⟩:=g3
 obtain ⟨a0, rfl⟩:=zCD h0
 obtain ⟨a1, rfl⟩:=zCc h1
 obtain ⟨a2, rfl⟩:=zCa h2
 obtain ⟨a3, rfl⟩:=zkJ h3
 obtain ⟨a4, rfl⟩:=zkJ h4
 exact Hs.f3 known a0 a1 a2 a3 a4
theorem zAG:joinedFacts Tryz.prog 3 Tryz.f3 Rows.topHoistsSpec Rows.topHoistsRow = true:=
 jW (jW (jW (jW (jW (jW (jW (jW (jW (jW (jW (jW (jW (jW (jW (jW (jW (jW (jW (jW (jW (jW (jW (jW (jW (jW (jW (jW (jW (jW (jW ((by kernel_rfl)) laidOut) zsA) (by kernel_rfl)) (by kernel_rfl)) (by kernel_rfl)) zq2) (by kernel_rfl)) zpF) (by kernel_rfl)) (by kernel_rfl)) (by kernel_rfl)) (by kernel_rfl)) (by kernel_rfl)) (by kernel_rfl)) (by kernel_rfl)) (by kernel_rfl)) (by kernel_rfl)) (by kernel_rfl)) (by kernel_rfl)) (by kernel_rfl)) (by kernel_rfl)) zsw) (by kernel_rfl)) zqh) zqg) t_lifted) zsg) (by kernel_rfl)) (by kernel_rfl)) (by kernel_rfl)) (by kernel_rfl)
theorem hoists_name:Tryz.prog.funcNamed "isobar/isobartop.TopHoists" = some 3:=by kernel_rfl
theorem zAY:Tryz.f3.isInstance Tryz.prog Rows.topHoistsRow.origin Rows.topHoistsRow.targs:=of_decide_eq_true (by kernel_rfl)
theorem zA2:Tryz.f3.isWrapper Tryz.prog Rows.topHoistsRow.wrapper Rows.topHoistsRow.mainSum:=by unfold Func.isWrapper; first | (rw [if_pos (by decide +kernel)]; kernel_rfl) | (rw [if_neg (by decide +kernel)]; exact ⟨rfl, rfl⟩)
theorem zAA:Tryz.prog.inits.idxOf? 3 = none:=by kernel_rfl
theorem zAJ:(Tryz.f3.params.toList.all fun t=>kY Tryz.prog (8 + 1) t) = true:=by kernel_rfl
theorem zAO:(Tryz.f3.params.toList.all fun t=>Tryz.prog.readableRec t && decide (t < Tryz.prog.types.size)) = true:=by kernel_rfl
theorem zAx {H : Type} (enc : TypeId × Value -> H) (os : Os) : ∃ (w : World) (tape : Tape) (i : Input), w.os = os /\ (w.forCall tape i).Shaped Tryz.checked.prog /\ i.vars = [] /\ Input.okWide Tryz.checked.prog (w.forCall tape i) .any w.heap.size 3 i /\
      ((Rows.topHoistsSpec.pre enc Tryz.checked.prog Tryz.f3 [] false (w.forCall tape i).memory i.args /\ laidMetH Tryz.prog laid5 (w.forCall tape i).memory) /\ sizedMet enc Tryz.checked.prog Tryz.f3 (OpenSpec.ofChange Rows.topHoistsSpec) false (w.forCall tape i).memory i.args) /\ ({}:Assume).holds Tryz.checked.prog (lone (Frame.enter Tryz.checked.prog 3 i.args .normal) [] (w.forCall tape i)):=
  ChangeSpec.witness_shaped (enc:=enc) (C:=Tryz.checked) (os:=os) (X:=fun w _=>laidMetH Tryz.prog laid5 w) false (World.laidAll Tryz.prog os laid5) #[.agg #[.slice none 0 0, .slice none 0 0, .slice none 0 0, .int .i64 0, .int .i64 0, .int .i64 0, .int .i64 0, .int .i64 0, .int .i64 0, .int .i64 0, .int .i64 0, .slice none 0 0, .slice none 0 0, .slice none 0 0, .int .i64 0, .int .i64 0, .int .i64 0, .int .i64 0, .int .i64 0, .int .i64 0, .slice none 0 0, .int .i64 0, .int .i64 0, .int .i64 0, .int .i64 0], .slice none 0 0, .slice none 0 0, .int .i64 0, .int .i64 0] 8 (World.laidAll_os _ _ _) (zp4 os _) (by kernel_rfl) (by kernel_rfl) (by kernel_rfl) (zmA os _)
theorem zAE:Rows.TopHoistsSaid:=
 OpenClaim.holds_of_wide 3 Tryz.f3 rfl rfl rfl rfl rfl rfl rfl ⟨rfl, rfl, rfl, rfl, rfl⟩ rfl rfl rfl rfl rfl hoists_name Tryz.func3 zAG zAY zA2
  (fun os started H enc _=>zp3 zij os started H enc (s:=Rows.topHoistsSpec) (n:=8) Tryz.func3 zAA zAJ zAO rfl rfl
   (fun ds hd=>match ds, hd with | [_, _, _, _, _], _=>rfl) zA7 (zAx enc os))
theorem zBr:Rows.topHoistsRow.wfByText (OpenSpec.ofChange Rows.topHoistsSpec) = true:=by kernel_rfl
theorem hoists_main:Tryz.pinned.checked.prog.mainIs = some (true, "289a431fdb2263323ffb0e056d38a7967f485279947c01e59e404db151fb7b09".toList):=by kernel_rfl
theorem zAz:(Tryz.f3.params.toList.all fun t=>!Tryz.prog.wantsStandIn t) = true:=by kernel_rfl
theorem zAN:false = Rows.topHoistsRow.goesBy Tryz.prog:=zmZ ztV _
theorem hoists_card:Rows.TopHoistsCardSaid:=
 Claim7.holds_tied_plain_at .later [] [.data, .data, .data, .data, .pinned] true (true, "289a431fdb2263323ffb0e056d38a7967f485279947c01e59e404db151fb7b09") true
  zAE (fun _ h=>by cases h) zBr (fun _ h=>by cases h) topHoists_row_tie rfl ⟨rfl, rfl⟩ hoists_main rfl
  (fun f fn hf hfn=>by
   obtain rfl:f = 3:=Option.some.inj (hoists_name.symm.trans hf) |>.symm
   obtain rfl:fn = Tryz.f3:=(Option.some.inj (Tryz.func3.symm.trans hfn)).symm
   refine ⟨zmS, fun j t ht=>?_⟩
   have h3:=List.all_eq_true.1 zAz t (by rw [Array.mem_toList_iff]; exact Array.mem_of_getElem? ht)
   have h4:Tryz.prog.wantsStandIn t = false:=by simpa using h3
   exact h4)
  zAN
#print axioms hoists_card
end Go.Proofs.YtgmbdadkbominaaGreatDoor
end
