/- BureauWatches: for every input the law returns true and leaves its arguments as they were; the program's variables are laid as its text lays them. -/
import Derived.Test.YtigbomcjnlikjaaGreatDoorFrA
import Derived.Test.YtigbomcjnlikjaaGreatDoorLaB
set_option linter.unusedVariables false
set_option linter.unusedSimpArgs false
set_option maxRecDepth 100000
set_option maxHeartbeats 9000000
section
namespace Go.Proofs.YtigbomcjnlikjaaGreatDoor
open Go Go.ChangeShapes Go.WideShapes Go.ChangeAt Go.RowKit Go.Av
theorem rC(xs:List AV)(h:aP Tryz.prog 8 Tryz.f5.params.toList xs):ACall Tryz.prog GT 5 xs (.v (.bool true)):=by
 obtain⟨x0,_,rfl,h0,g0⟩:=h;obtain⟨x1,_,rfl,h1,g1⟩:=g0;obtain⟨x2,_,rfl,h2,g2⟩:=g1;obtain⟨x3,_,rfl,h3,g3⟩:=g2;obtain⟨x4,_,rfl,h4,rfl⟩:=g3;obtain⟨a0,rfl⟩:=mr h0;obtain⟨a1,rfl⟩:=eL h1;obtain⟨a2,rfl⟩:=tH h2;obtain⟨a3,rfl⟩:=tH h3;obtain⟨a4,rfl⟩:=Qg h4;exact Bu.f5 known a0 a1 a2 a3 a4
theorem iQ:joinedFacts Tryz.prog 5 Tryz.f5 Rows.bureauWatchesSpec Rows.bureauWatchesRow=true:=
 zJ (zJ (zJ (zJ (zJ (zJ (zJ (zJ (zJ (zJ (zJ (zJ (zJ (zJ (zJ (zJ (zJ (zJ (zJ (zJ (zJ (zJ (zJ (zJ (zJ (zJ (zJ (zJ (zJ (zJ (zJ (nR) laidOut) nu) nR) nR) nR) eY) nR) eH) nR) nR) nR) nR) nR) nR) nR) nR) nR) nR) nR) nR) nR) nV) nR) eU) eO) t_lifted) oa) nR) nR) nR) nR
theorem watches_name:Tryz.prog.funcNamed "isobar/isobarlaw10.BureauWatches"=some 5:=nR
theorem mN:Tryz.f5.isInstance Tryz.prog Rows.bureauWatchesRow.origin Rows.bureauWatchesRow.targs:=of_decide_eq_true nR
theorem mD:Tryz.f5.isWrapper Tryz.prog Rows.bureauWatchesRow.wrapper Rows.bureauWatchesRow.mainSum:=by unfold Func.isWrapper;first|(rw[zLc (by decide+kernel)];kernel_rfl)|(rw[zLy (by decide+kernel)];exact⟨rfl,rfl⟩)
theorem fZ:Tryz.prog.inits.idxOf? 5=none:=nR
theorem lh:(Tryz.f5.params.toList.all fun t=>ww Tryz.prog (8+1) t)=true:=nR
theorem mQ:(Tryz.f5.params.toList.all fun t=>Tryz.prog.readableRec t&&decide (t<Tryz.prog.types.size))=true:=nR
theorem ef {H : Type} (enc : TypeId × Value -> H) (os : Os) : ∃ (w : World) (tape : Tape) (i : Input), w.os = os /\ (w.forCall tape i).Shaped Tryz.checked.prog /\ i.vars = [] /\ Input.okWide Tryz.checked.prog (w.forCall tape i) .any w.heap.size 5 i /\
      ((Rows.bureauWatchesSpec.pre enc Tryz.checked.prog Tryz.f5 [] false (w.forCall tape i).memory i.args/\laidMetH Tryz.prog laid5 (w.forCall tape i).memory)/\sizedMet enc Tryz.checked.prog Tryz.f5 (OpenSpec.ofChange Rows.bureauWatchesSpec) false (w.forCall tape i).memory i.args)/\({}:Assume).holds Tryz.checked.prog (lone (Frame.enter Tryz.checked.prog 5 i.args .normal) [] (w.forCall tape i)):=
  ChangeSpec.witness_shaped (enc:=enc) (C:=Tryz.checked) (os:=os) (X:=fun w _=>laidMetH Tryz.prog laid5 w) false (World.laidAll Tryz.prog os laid5) #[.agg #[.slice none 0 0,.slice none 0 0,.slice none 0 0,.int .i64 0,.int .i64 0,.int .i64 0,.int .i64 0,.int .i64 0,.int .i64 0,.int .i64 0,.int .i64 0,.slice none 0 0,.slice none 0 0,.slice none 0 0,.int .i64 0,.int .i64 0,.int .i64 0,.int .i64 0,.int .i64 0,.int .i64 0,.slice none 0 0,.int .i64 0,.int .i64 0,.int .i64 0,.int .i64 0],.slice none 0 0,.int .i64 0,.int .i64 0,.agg #[.int .i64 0,.int .i64 0,.int .i64 0,.int .i64 0,.int .i64 0,.int .i64 0,.int .i64 0]] 8 (World.laidAll_os _ _ _) (eM os _) nR nR nR (xI os _)
theorem iL:Rows.BureauWatchesSaid:=
 OpenClaim.holds_of_wide 5 Tryz.f5 rfl rfl rfl rfl rfl rfl rfl ⟨rfl,rfl,rfl,rfl,rfl⟩ rfl rfl rfl rfl rfl watches_name Tryz.func5 iQ mN mD
  (fun os started H enc _=>ff vD os started H enc (s:=Rows.bureauWatchesSpec) (n:=8) Tryz.func5 fZ lh mQ rfl rfl
   (fun ds hd=>match ds,hd with|[_,_,_,_,_],_=>rfl) rC (ef enc os))
theorem tZ:Rows.bureauWatchesRow.wfByText (OpenSpec.ofChange Rows.bureauWatchesSpec)=true:=nR
theorem watches_main:Tryz.pinned.checked.prog.mainIs=some (true,"b0b19e1712b7093aee8b05e5289e8a5f802361f7ad21800066e52839856787e8".toList):=nR
theorem eq:(Tryz.f5.params.toList.all fun t=>!Tryz.prog.wantsStandIn t)=true:=nR
theorem nK:false=Rows.bureauWatchesRow.goesBy Tryz.prog:=af Jo _
theorem watches_card:Rows.BureauWatchesCardSaid:=
 Claim7.holds_tied_plain_at .later [] [.data,.data,.data,.data,.pinned] true (true,"b0b19e1712b7093aee8b05e5289e8a5f802361f7ad21800066e52839856787e8") true
  iL (fun _ h=>by cases h) tZ (fun _ h=>by cases h) bureauWatches_row_tie rfl ⟨rfl,rfl⟩ watches_main rfl
  (fun f fn hf hfn=>by
   obtain rfl:f=5:=Option.some.inj (watches_name.symm.trans hf)|>.symm;obtain rfl:fn=Tryz.f5:=(Option.some.inj (Tryz.func5.symm.trans hfn)).symm;refine⟨aa,fun j t ht=>?_⟩;have h3:=zLu.1 eq t (by rw[Array.mem_toList_iff];exact Array.mem_of_getElem? ht);have h4:Tryz.prog.wantsStandIn t=false:=by simpa using h3
   exact h4)
  nK
#print axioms watches_card
end Go.Proofs.YtigbomcjnlikjaaGreatDoor
end
