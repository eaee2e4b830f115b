import Derived.Test.YtgmbdadkbominaaGreatDoorArgs
import Derived.Test.YtgmbdadkbominaaGreatDoorChZ
set_option linter.unusedVariables false
set_option linter.unusedSimpArgs false
section
namespace Go.Proofs.YtgmbdadkbominaaGreatDoor
open Go Go.ChangeShapes Go.WideShapes Go.ChangeAt Go.RowKit Go.Av Go.Bv
set_option maxRecDepth 100000
theorem zol (xs:List AV) (h:zh1 Tryz.prog 8 Tryz.f4.params.toList xs):ACall Tryz.prog GT 4 xs (.v (.bool true)):=by
 obtain ⟨x0, _, rfl, h0, g0⟩:=h
 obtain ⟨x1, _, rfl, h1, g1⟩:=g0
 obtain ⟨x2, _, rfl, h2, g2⟩:=g1
 obtain ⟨x3, _, rfl, h3, g3⟩:=g2
 obtain ⟨x4, _, rfl, h4, g4⟩:=g3
 obtain ⟨x5, _, rfl, h5, rfl⟩:=g4
 obtain ⟨a0, rfl⟩:=zsf h0
 obtain ⟨a1, rfl⟩:=zrL h1
 obtain ⟨a2, rfl⟩:=zkJ h2
 obtain ⟨a3, rfl⟩:=zrZ h3
 obtain ⟨a4, rfl⟩:=zkJ h4
 obtain ⟨a5, rfl⟩:=zkJ h5
 exact Tp.f4 known a0 a1 a2 a3 a4 a5
theorem zkw:joinedFacts Tryz.prog 4 Tryz.f4 Rows.topMapsSpec Rows.topMapsRow = true:=
 jW (jW (jW (jW (jW (jW (jW (jW (jW (jW (jW (jW (jW (jW (jW (jW (jW (jW (jW (jW (jW (jW (jW (jW (jW (jW (jW (jW (jW (jW (jW ((by kernel_rfl)) laidOut) zsA) (by kernel_rfl)) (by kernel_rfl)) (by kernel_rfl)) zq2) (by kernel_rfl)) zpF) (by kernel_rfl)) (by kernel_rfl)) (by kernel_rfl)) (by kernel_rfl)) (by kernel_rfl)) (by kernel_rfl)) (by kernel_rfl)) (by kernel_rfl)) (by kernel_rfl)) (by kernel_rfl)) (by kernel_rfl)) (by kernel_rfl)) (by kernel_rfl)) zsw) (by kernel_rfl)) zqh) zqg) t_lifted) zsg) (by kernel_rfl)) (by kernel_rfl)) (by kernel_rfl)) (by kernel_rfl)
theorem maps_name:Tryz.prog.funcNamed "isobar/isobartop.TopMaps" = some 4:=by kernel_rfl
theorem zm7:Tryz.f4.isInstance Tryz.prog Rows.topMapsRow.origin Rows.topMapsRow.targs:=of_decide_eq_true (by kernel_rfl)
theorem zmN:Tryz.f4.isWrapper Tryz.prog Rows.topMapsRow.wrapper Rows.topMapsRow.mainSum:=by unfold Func.isWrapper; first | (rw [if_pos (by decide +kernel)]; kernel_rfl) | (rw [if_neg (by decide +kernel)]; exact ⟨rfl, rfl⟩)
theorem zju:Tryz.prog.inits.idxOf? 4 = none:=by kernel_rfl
theorem zkE:(Tryz.f4.params.toList.all fun t=>kY Tryz.prog (8 + 1) t) = true:=by kernel_rfl
theorem zne:(Tryz.f4.params.toList.all fun t=>Tryz.prog.readableRec t && decide (t < Tryz.prog.types.size)) = true:=by kernel_rfl
theorem zhG {H : Type} (enc : TypeId × Value -> H) (os : Os) : ∃ (w : World) (tape : Tape) (i : Input), w.os = os /\ (w.forCall tape i).Shaped Tryz.checked.prog /\ i.vars = [] /\ Input.okWide Tryz.checked.prog (w.forCall tape i) .any w.heap.size 4 i /\
      ((Rows.topMapsSpec.pre enc Tryz.checked.prog Tryz.f4 [] false (w.forCall tape i).memory i.args /\ laidMetH Tryz.prog laid5 (w.forCall tape i).memory) /\ sizedMet enc Tryz.checked.prog Tryz.f4 (OpenSpec.ofChange Rows.topMapsSpec) false (w.forCall tape i).memory i.args) /\ ({}:Assume).holds Tryz.checked.prog (lone (Frame.enter Tryz.checked.prog 4 i.args .normal) [] (w.forCall tape i)):=
  ChangeSpec.witness_shaped (enc:=enc) (C:=Tryz.checked) (os:=os) (X:=fun w _=>laidMetH Tryz.prog laid5 w) false (World.laidAll Tryz.prog os laid5) #[.agg #[.slice none 0 0, .slice none 0 0, .int .i64 0], .agg #[.int .i64 0, .slice none 0 0], .int .i64 0, .slice none 0 0, .int .i64 0, .int .i64 0] 8 (World.laidAll_os _ _ _) (zp4 os _) (by kernel_rfl) (by kernel_rfl) (by kernel_rfl) (zmA os _)
theorem zkp:Rows.TopMapsSaid:=
 OpenClaim.holds_of_wide 4 Tryz.f4 rfl rfl rfl rfl rfl rfl rfl ⟨rfl, rfl, rfl, rfl, rfl⟩ rfl rfl rfl rfl rfl maps_name Tryz.func4 zkw zm7 zmN
  (fun os started H enc _=>zp3 zij os started H enc (s:=Rows.topMapsSpec) (n:=8) Tryz.func4 zju zkE zne rfl rfl
   (fun ds hd=>match ds, hd with | [_, _, _, _, _, _], _=>rfl) zol (zhG enc os))
theorem zqG:Rows.topMapsRow.wfByText (OpenSpec.ofChange Rows.topMapsSpec) = true:=by kernel_rfl
theorem maps_main:Tryz.pinned.checked.prog.mainIs = some (true, "289a431fdb2263323ffb0e056d38a7967f485279947c01e59e404db151fb7b09".toList):=by kernel_rfl
theorem zin:(Tryz.f4.params.toList.all fun t=>!Tryz.prog.wantsStandIn t) = true:=by kernel_rfl
theorem znh:false = Rows.topMapsRow.goesBy Tryz.prog:=zmZ ztV _
theorem maps_card:Rows.TopMapsCardSaid:=
 Claim7.holds_tied_plain_at .later [] [.data, .data, .data, .data, .pinned] true (true, "289a431fdb2263323ffb0e056d38a7967f485279947c01e59e404db151fb7b09") true
  zkp (fun _ h=>by cases h) zqG (fun _ h=>by cases h) topMaps_row_tie rfl ⟨rfl, rfl⟩ maps_main rfl
  (fun f fn hf hfn=>by
   obtain rfl:f = 4:=Option.some.inj (maps_name.symm.trans hf) |>.symm
   obtain rfl:fn = Tryz.f4:=(Option.some.inj (Tryz.func4.symm.trans hfn)).symm
   refine ⟨zmS, fun j t ht=>?_⟩
   have h3:=List.all_eq_true.1 zin t (by rw [Array.mem_toList_iff]; exact Array.mem_of_getElem? ht)
   have h4:Tryz.prog.wantsStandIn t = false:=by simpa using h3
   exact h4)
  znh
#print axioms maps_card
end Go.Proofs.YtgmbdadkbominaaGreatDoor
end
