/- BureauScores: for every input the law returns true and leaves its arguments as they were; the program's variables are laid as its text lays them. -/
import Derived.Test.YtigbomcjnlikjaaGreatDoorFrA
import Derived.Test.YtigbomcjnlikjaaGreatDoorLaE
set_option linter.unusedVariables false
set_option linter.unusedSimpArgs false
set_option maxRecDepth 100000
set_option maxHeartbeats 9000000
section
namespace Go.Proofs.YtigbomcjnlikjaaGreatDoor
open Go Go.ChangeShapes Go.WideShapes Go.ChangeAt Go.RowKit Go.Av
theorem tU(xs:List AV)(h:aP Tryz.prog 8 Tryz.f6.params.toList xs):ACall Tryz.prog GT 6 xs (.v (.bool true)):=by
 obtain⟨x0,_,rfl,h0,g0⟩:=h;obtain⟨x1,_,rfl,h1,g1⟩:=g0;obtain⟨x2,_,rfl,h2,rfl⟩:=g1;obtain⟨a0,rfl⟩:=mr h0;obtain⟨a1,rfl⟩:=eL h1;obtain⟨a2,rfl⟩:=tH h2;exact Bu.f6 known a0 a1 a2
theorem mI:joinedFacts Tryz.prog 6 Tryz.f6 Rows.bureauScoresSpec Rows.bureauScoresRow=true:=
 zJ (zJ (zJ (zJ (zJ (zJ (zJ (zJ (zJ (zJ (zJ (zJ (zJ (zJ (zJ (zJ (zJ (zJ (zJ (zJ (zJ (zJ (zJ (zJ (zJ (zJ (zJ (zJ (zJ (zJ (zJ (nR) laidOut) nu) nR) nR) nR) eY) nR) eH) nR) nR) nR) nR) nR) nR) nR) nR) nR) nR) nR) nR) nR) nV) nR) eU) eO) t_lifted) oa) nR) nR) nR) nR
theorem scores_name:Tryz.prog.funcNamed "isobar/isobarlaw10.BureauScores"=some 6:=nR
theorem rD:Tryz.f6.isInstance Tryz.prog Rows.bureauScoresRow.origin Rows.bureauScoresRow.targs:=of_decide_eq_true nR
theorem rm:Tryz.f6.isWrapper Tryz.prog Rows.bureauScoresRow.wrapper Rows.bureauScoresRow.mainSum:=by unfold Func.isWrapper;first|(rw[zLc (by decide+kernel)];kernel_rfl)|(rw[zLy (by decide+kernel)];exact⟨rfl,rfl⟩)
theorem iZ:Tryz.prog.inits.idxOf? 6=none:=nR
theorem nE:(Tryz.f6.params.toList.all fun t=>ww Tryz.prog (8+1) t)=true:=nR
theorem oY:(Tryz.f6.params.toList.all fun t=>Tryz.prog.readableRec t&&decide (t<Tryz.prog.types.size))=true:=nR
theorem iE {H : Type} (enc : TypeId × Value -> H) (os : Os) : ∃ (w : World) (tape : Tape) (i : Input), w.os = os /\ (w.forCall tape i).Shaped Tryz.checked.prog /\ i.vars = [] /\ Input.okWide Tryz.checked.prog (w.forCall tape i) .any w.heap.size 6 i /\
      ((Rows.bureauScoresSpec.pre enc Tryz.checked.prog Tryz.f6 [] false (w.forCall tape i).memory i.args/\laidMetH Tryz.prog laid5 (w.forCall tape i).memory)/\sizedMet enc Tryz.checked.prog Tryz.f6 (OpenSpec.ofChange Rows.bureauScoresSpec) false (w.forCall tape i).memory i.args)/\({}:Assume).holds Tryz.checked.prog (lone (Frame.enter Tryz.checked.prog 6 i.args .normal) [] (w.forCall tape i)):=
  ChangeSpec.witness_shaped (enc:=enc) (C:=Tryz.checked) (os:=os) (X:=fun w _=>laidMetH Tryz.prog laid5 w) false (World.laidAll Tryz.prog os laid5) #[.agg #[.slice none 0 0,.slice none 0 0,.slice none 0 0,.int .i64 0,.int .i64 0,.int .i64 0,.int .i64 0,.int .i64 0,.int .i64 0,.int .i64 0,.int .i64 0,.slice none 0 0,.slice none 0 0,.slice none 0 0,.int .i64 0,.int .i64 0,.int .i64 0,.int .i64 0,.int .i64 0,.int .i64 0,.slice none 0 0,.int .i64 0,.int .i64 0,.int .i64 0,.int .i64 0],.slice none 0 0,.int .i64 0] 8 (World.laidAll_os _ _ _) (eM os _) nR nR nR (xI os _)
theorem ny:Rows.BureauScoresSaid:=
 OpenClaim.holds_of_wide 6 Tryz.f6 rfl rfl rfl rfl rfl rfl rfl ⟨rfl,rfl,rfl,rfl,rfl⟩ rfl rfl rfl rfl rfl scores_name Tryz.func6 mI rD rm
  (fun os started H enc _=>ff vD os started H enc (s:=Rows.bureauScoresSpec) (n:=8) Tryz.func6 iZ nE oY rfl rfl
   (fun ds hd=>match ds,hd with|[_,_,_],_=>rfl) tU (iE enc os))
theorem Dt:Rows.bureauScoresRow.wfByText (OpenSpec.ofChange Rows.bureauScoresSpec)=true:=nR
theorem scores_main:Tryz.pinned.checked.prog.mainIs=some (true,"b0b19e1712b7093aee8b05e5289e8a5f802361f7ad21800066e52839856787e8".toList):=nR
theorem fh:(Tryz.f6.params.toList.all fun t=>!Tryz.prog.wantsStandIn t)=true:=nR
theorem pW:false=Rows.bureauScoresRow.goesBy Tryz.prog:=af Jo _
theorem scores_card:Rows.BureauScoresCardSaid:=
 Claim7.holds_tied_plain_at .later [] [.data,.data,.data,.data,.pinned] true (true,"b0b19e1712b7093aee8b05e5289e8a5f802361f7ad21800066e52839856787e8") true
  ny (fun _ h=>by cases h) Dt (fun _ h=>by cases h) bureauScores_row_tie rfl ⟨rfl,rfl⟩ scores_main rfl
  (fun f fn hf hfn=>by
   obtain rfl:f=6:=Option.some.inj (scores_name.symm.trans hf)|>.symm;obtain rfl:fn=Tryz.f6:=(Option.some.inj (Tryz.func6.symm.trans hfn)).symm;refine⟨aa,fun j t ht=>?_⟩;have h3:=zLu.1 fh t (by rw[Array.mem_toList_iff];exact Array.mem_of_getElem? ht);have h4:Tryz.prog.wantsStandIn t=false:=by simpa using h3
   exact h4)
  pW
#print axioms scores_card
end Go.Proofs.YtigbomcjnlikjaaGreatDoor
end
