/- BureauPasses: for every input the law returns true and leaves its arguments as they were; the program's variables are laid as its text lays them. -/
import Derived.Test.YtigbomcjnlikjaaGreatDoorFrA
import Derived.Test.YtigbomcjnlikjaaGreatDoorLaF
set_option linter.unusedVariables false
set_option linter.unusedSimpArgs false
set_option maxRecDepth 100000
set_option maxHeartbeats 9000000
section
namespace Go.Proofs.YtigbomcjnlikjaaGreatDoor
open Go Go.ChangeShapes Go.WideShapes Go.ChangeAt Go.RowKit Go.Av
theorem uj(xs:List AV)(h:aP Tryz.prog 8 Tryz.f4.params.toList xs):ACall Tryz.prog GT 4 xs (.v (.bool true)):=by
 obtain⟨x0,_,rfl,h0,g0⟩:=h;obtain⟨x1,_,rfl,h1,rfl⟩:=g0;obtain⟨a0,rfl⟩:=mr h0;obtain⟨a1,rfl⟩:=eL h1;exact Bu.f4 known a0 a1
theorem oD:joinedFacts Tryz.prog 4 Tryz.f4 Rows.bureauPassesSpec Rows.bureauPassesRow=true:=
 zJ (zJ (zJ (zJ (zJ (zJ (zJ (zJ (zJ (zJ (zJ (zJ (zJ (zJ (zJ (zJ (zJ (zJ (zJ (zJ (zJ (zJ (zJ (zJ (zJ (zJ (zJ (zJ (zJ (zJ (zJ (nR) laidOut) nu) nR) nR) nR) eY) nR) eH) nR) nR) nR) nR) nR) nR) nR) nR) nR) nR) nR) nR) nR) nV) nR) eU) eO) t_lifted) oa) nR) nR) nR) nR
theorem passes_name:Tryz.prog.funcNamed "isobar/isobarlaw10.BureauPasses"=some 4:=nR
theorem sc:Tryz.f4.isInstance Tryz.prog Rows.bureauPassesRow.origin Rows.bureauPassesRow.targs:=of_decide_eq_true nR
theorem pD:Tryz.f4.isWrapper Tryz.prog Rows.bureauPassesRow.wrapper Rows.bureauPassesRow.mainSum:=by unfold Func.isWrapper;first|(rw[zLc (by decide+kernel)];kernel_rfl)|(rw[zLy (by decide+kernel)];exact⟨rfl,rfl⟩)
theorem iM:Tryz.prog.inits.idxOf? 4=none:=nR
theorem nY:(Tryz.f4.params.toList.all fun t=>ww Tryz.prog (8+1) t)=true:=nR
theorem o0:(Tryz.f4.params.toList.all fun t=>Tryz.prog.readableRec t&&decide (t<Tryz.prog.types.size))=true:=nR
theorem ir {H : Type} (enc : TypeId × Value -> H) (os : Os) : ∃ (w : World) (tape : Tape) (i : Input), w.os = os /\ (w.forCall tape i).Shaped Tryz.checked.prog /\ i.vars = [] /\ Input.okWide Tryz.checked.prog (w.forCall tape i) .any w.heap.size 4 i /\
      ((Rows.bureauPassesSpec.pre enc Tryz.checked.prog Tryz.f4 [] false (w.forCall tape i).memory i.args/\laidMetH Tryz.prog laid5 (w.forCall tape i).memory)/\sizedMet enc Tryz.checked.prog Tryz.f4 (OpenSpec.ofChange Rows.bureauPassesSpec) false (w.forCall tape i).memory i.args)/\({}:Assume).holds Tryz.checked.prog (lone (Frame.enter Tryz.checked.prog 4 i.args .normal) [] (w.forCall tape i)):=
  ChangeSpec.witness_shaped (enc:=enc) (C:=Tryz.checked) (os:=os) (X:=fun w _=>laidMetH Tryz.prog laid5 w) false (World.laidAll Tryz.prog os laid5) #[.agg #[.slice none 0 0,.slice none 0 0,.slice none 0 0,.int .i64 0,.int .i64 0,.int .i64 0,.int .i64 0,.int .i64 0,.int .i64 0,.int .i64 0,.int .i64 0,.slice none 0 0,.slice none 0 0,.slice none 0 0,.int .i64 0,.int .i64 0,.int .i64 0,.int .i64 0,.int .i64 0,.int .i64 0,.slice none 0 0,.int .i64 0,.int .i64 0,.int .i64 0,.int .i64 0],.slice none 0 0] 8 (World.laidAll_os _ _ _) (eM os _) nR nR nR (xI os _)
theorem mH:Rows.BureauPassesSaid:=
 OpenClaim.holds_of_wide 4 Tryz.f4 rfl rfl rfl rfl rfl rfl rfl ⟨rfl,rfl,rfl,rfl,rfl⟩ rfl rfl rfl rfl rfl passes_name Tryz.func4 oD sc pD
  (fun os started H enc _=>ff vD os started H enc (s:=Rows.bureauPassesSpec) (n:=8) Tryz.func4 iM nY o0 rfl rfl
   (fun ds hd=>match ds,hd with|[_,_],_=>rfl) uj (ir enc os))
theorem BA:Rows.bureauPassesRow.wfByText (OpenSpec.ofChange Rows.bureauPassesSpec)=true:=nR
theorem passes_main:Tryz.pinned.checked.prog.mainIs=some (true,"b0b19e1712b7093aee8b05e5289e8a5f802361f7ad21800066e52839856787e8".toList):=nR
theorem gZ:(Tryz.f4.params.toList.all fun t=>!Tryz.prog.wantsStandIn t)=true:=nR
theorem ry:false=Rows.bureauPassesRow.goesBy Tryz.prog:=af Jo _
theorem passes_card:Rows.BureauPassesCardSaid:=
 Claim7.holds_tied_plain_at .later [] [.data,.data,.data,.data,.pinned] true (true,"b0b19e1712b7093aee8b05e5289e8a5f802361f7ad21800066e52839856787e8") true
  mH (fun _ h=>by cases h) BA (fun _ h=>by cases h) bureauPasses_row_tie rfl ⟨rfl,rfl⟩ passes_main rfl
  (fun f fn hf hfn=>by
   obtain rfl:f=4:=Option.some.inj (passes_name.symm.trans hf)|>.symm;obtain rfl:fn=Tryz.f4:=(Option.some.inj (Tryz.func4.symm.trans hfn)).symm;refine⟨aa,fun j t ht=>?_⟩;have h3:=zLu.1 gZ t (by rw[Array.mem_toList_iff];exact Array.mem_of_getElem? ht);have h4:Tryz.prog.wantsStandIn t=false:=by simpa using h3
   exact h4)
  ry
#print axioms passes_card
end Go.Proofs.YtigbomcjnlikjaaGreatDoor
end
