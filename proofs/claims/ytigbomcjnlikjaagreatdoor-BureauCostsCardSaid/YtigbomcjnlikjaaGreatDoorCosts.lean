/- BureauCosts: for every input the law returns true and leaves its arguments as they were; the program's variables are laid as its text lays them. -/
import Derived.Test.YtigbomcjnlikjaaGreatDoorFrA
set_option linter.unusedVariables false
set_option linter.unusedSimpArgs false
set_option maxRecDepth 100000
set_option maxHeartbeats 9000000
section
namespace Go.Proofs.YtigbomcjnlikjaaGreatDoor
open Go Go.ChangeShapes Go.WideShapes Go.ChangeAt Go.RowKit Go.Av
theorem BK(xs:List AV)(h:aP Tryz.prog 8 Tryz.f7.params.toList xs):ACall Tryz.prog GT 7 xs (.v (.bool true)):=by
 obtain⟨x0,_,rfl,h0,g0⟩:=h;obtain⟨x1,_,rfl,h1,rfl⟩:=g0;obtain⟨a0,rfl⟩:=mr h0;obtain⟨a1,rfl⟩:=eL h1;exact Bu.f9 known a0 a1
theorem pY:joinedFacts Tryz.prog 7 Tryz.f7 Rows.bureauCostsSpec Rows.bureauCostsRow=true:=
 zJ (zJ (zJ (zJ (zJ (zJ (zJ (zJ (zJ (zJ (zJ (zJ (zJ (zJ (zJ (zJ (zJ (zJ (zJ (zJ (zJ (zJ (zJ (zJ (zJ (zJ (zJ (zJ (zJ (zJ (zJ (nR) laidOut) nu) nR) nR) nR) eY) nR) eH) nR) nR) nR) nR) nR) nR) nR) nR) nR) nR) nR) nR) nR) nV) nR) eU) eO) t_lifted) oa) nR) nR) nR) nR
theorem costs_name:Tryz.prog.funcNamed "isobar/isobarlaw10.BureauCosts"=some 7:=nR
theorem sL:Tryz.f7.isInstance Tryz.prog Rows.bureauCostsRow.origin Rows.bureauCostsRow.targs:=of_decide_eq_true nR
theorem sM:Tryz.f7.isWrapper Tryz.prog Rows.bureauCostsRow.wrapper Rows.bureauCostsRow.mainSum:=by unfold Func.isWrapper;first|(rw[zLc (by decide+kernel)];kernel_rfl)|(rw[zLy (by decide+kernel)];exact⟨rfl,rfl⟩)
theorem nD:Tryz.prog.inits.idxOf? 7=none:=nR
theorem oL:(Tryz.f7.params.toList.all fun t=>ww Tryz.prog (8+1) t)=true:=nR
theorem tV:(Tryz.f7.params.toList.all fun t=>Tryz.prog.readableRec t&&decide (t<Tryz.prog.types.size))=true:=nR
theorem iN {H : Type} (enc : TypeId × Value -> H) (os : Os) : ∃ (w : World) (tape : Tape) (i : Input), w.os = os /\ (w.forCall tape i).Shaped Tryz.checked.prog /\ i.vars = [] /\ Input.okWide Tryz.checked.prog (w.forCall tape i) .any w.heap.size 7 i /\
      ((Rows.bureauCostsSpec.pre enc Tryz.checked.prog Tryz.f7 [] false (w.forCall tape i).memory i.args/\laidMetH Tryz.prog laid5 (w.forCall tape i).memory)/\sizedMet enc Tryz.checked.prog Tryz.f7 (OpenSpec.ofChange Rows.bureauCostsSpec) false (w.forCall tape i).memory i.args)/\({}:Assume).holds Tryz.checked.prog (lone (Frame.enter Tryz.checked.prog 7 i.args .normal) [] (w.forCall tape i)):=
  ChangeSpec.witness_shaped (enc:=enc) (C:=Tryz.checked) (os:=os) (X:=fun w _=>laidMetH Tryz.prog laid5 w) false (World.laidAll Tryz.prog os laid5) #[.agg #[.slice none 0 0,.slice none 0 0,.slice none 0 0,.int .i64 0,.int .i64 0,.int .i64 0,.int .i64 0,.int .i64 0,.int .i64 0,.int .i64 0,.int .i64 0,.slice none 0 0,.slice none 0 0,.slice none 0 0,.int .i64 0,.int .i64 0,.int .i64 0,.int .i64 0,.int .i64 0,.int .i64 0,.slice none 0 0,.int .i64 0,.int .i64 0,.int .i64 0,.int .i64 0],.slice none 0 0] 8 (World.laidAll_os _ _ _) (eM os _) nR nR nR (xI os _)
theorem rn:Rows.BureauCostsSaid:=
 OpenClaim.holds_of_wide 7 Tryz.f7 rfl rfl rfl rfl rfl rfl rfl ⟨rfl,rfl,rfl,rfl,rfl⟩ rfl rfl rfl rfl rfl costs_name Tryz.func7 pY sL sM
  (fun os started H enc _=>ff vD os started H enc (s:=Rows.bureauCostsSpec) (n:=8) Tryz.func7 nD oL tV rfl rfl
   (fun ds hd=>match ds,hd with|[_,_],_=>rfl) BK (iN enc os))
theorem Hv:Rows.bureauCostsRow.wfByText (OpenSpec.ofChange Rows.bureauCostsSpec)=true:=nR
theorem costs_main:Tryz.pinned.checked.prog.mainIs=some (true,"b0b19e1712b7093aee8b05e5289e8a5f802361f7ad21800066e52839856787e8".toList):=nR
theorem lc:(Tryz.f7.params.toList.all fun t=>!Tryz.prog.wantsStandIn t)=true:=nR
theorem s8:false=Rows.bureauCostsRow.goesBy Tryz.prog:=af Jo _
theorem costs_card:Rows.BureauCostsCardSaid:=
 Claim7.holds_tied_plain_at .later [] [.data,.data,.data,.data,.pinned] true (true,"b0b19e1712b7093aee8b05e5289e8a5f802361f7ad21800066e52839856787e8") true
  rn (fun _ h=>by cases h) Hv (fun _ h=>by cases h) bureauCosts_row_tie rfl ⟨rfl,rfl⟩ costs_main rfl
  (fun f fn hf hfn=>by
   obtain rfl:f=7:=Option.some.inj (costs_name.symm.trans hf)|>.symm;obtain rfl:fn=Tryz.f7:=(Option.some.inj (Tryz.func7.symm.trans hfn)).symm;refine⟨aa,fun j t ht=>?_⟩;have h3:=zLu.1 lc t (by rw[Array.mem_toList_iff];exact Array.mem_of_getElem? ht);have h4:Tryz.prog.wantsStandIn t=false:=by simpa using h3
   exact h4)
  s8
#print axioms costs_card
end Go.Proofs.YtigbomcjnlikjaaGreatDoor
end
