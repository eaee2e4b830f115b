
import Derived.Test.YtaphehlgijlfeaaGreatDoorExA
import Derived.Test.YtaphehlgijlfeaaGreatDoorExB
import Derived.Test.YtaphehlgijlfeaaGreatDoorExC
import Derived.Test.YtaphehlgijlfeaaGreatDoorExD
import Derived.Test.YtaphehlgijlfeaaGreatDoorExE
import Derived.Test.YtaphehlgijlfeaaGreatDoorExF
import Derived.Test.YtaphehlgijlfeaaGreatDoorExG
import Derived.Test.YtaphehlgijlfeaaGreatDoorWiD
import Derived.KernelRfl
set_option linter.unusedVariables false
set_option linter.unusedSimpArgs false
section
namespace Go.Av
open Go.Proofs
set_option maxRecDepth 100000
set_option maxHeartbeats 1000000
variable {G : Glob}
theorem zkv : Tryz.prog.info? 34 = some Tryz.t34 := by kernel_rfl
theorem ti3 : Tryz.prog.info? 3 = some Tryz.t3 := by kernel_rfl
theorem zsY : xu Tryz.prog 70 [(0, 1), (1, 1), (2, 1)] [.int .i64 0, .int .i64 0, .int .i64 0] := ⟨_, Tryz.underlying70, by kernel_rfl, by kernel_rfl⟩
theorem zlT : Tryz.prog.info? 23 = some Tryz.t23 := by kernel_rfl
open Go.Bv in
theorem d28 : ACall Tryz.prog GT 28 [jd [[75310, 27030], [75810, 27030]], jd [[75310, 27030], [75810, 27030]]] (.v (.bool true)) := qW jR gT (n := 10000) (drt := drW) (by kernel_rfl)
open Go.Bv in
theorem zsZ : ACall Tryz.prog GT 29 [jC [[55, 53, 63, 49, 48], [50, 55, 48, 51, 48]], jC [[55, 53, 63, 49, 48], [50, 55, 48, 51, 48]]] (.v (.bool true)) := qW jR gT (n := 10000) (drt := drW) (by kernel_rfl)
open Go.Bv in
theorem ztg : ACall Tryz.prog GT 29 [jC [[97, 98, 97, 102, 116], [57, 50, 56, 52, 48]], jC [[97, 98, 97, 102, 116], [57, 50, 56, 52, 48]]] (.v (.bool true)) := qW jR gT (n := 10000) (drt := drW) (by kernel_rfl)
open Go.Bv in
theorem zs8 : ACall Tryz.prog GT 39 [zO [1], zO [1]] (.v (.bool true)) := qW jR gT (n := 10000) (drt := drW) (by kernel_rfl)
open Go.Bv in
theorem zte : ACall Tryz.prog GT 39 [zO [0, 2], zO [0, 2]] (.v (.bool true)) := qW jR gT (n := 10000) (drt := drW) (by kernel_rfl)
open Go.Bv in
theorem zs3 : ACall Tryz.prog GT 39 [zO [0, 1], zO [0, 1]] (.v (.bool true)) := qW jR gT (n := 10000) (drt := drW) (by kernel_rfl)
theorem known : KN GT := by
 refine zS Tryz.func23 rfl (by kernel_rfl) rfl ?_
 refine zl (zh (zg rfl rfl (zn rfl rfl) (zo (zf (zl (zh (zg rfl rfl (zy (av := []) rfl trivial d79) (zg rfl rfl (zy (av := []) rfl trivial d80) (zg rfl rfl (qg (size := 1) (rows := [[_]]) rfl Tryz.underlying26 zkv rfl (by decide) rfl (by decide) ⟨_, _, rfl, (kQ rfl), rfl⟩ (by rfl) (by simp [ofV]) rfl (by simp)) (zg rfl rfl (zy (av := [_, _]) rfl ⟨rfl, rfl, trivial⟩ d24) (zg rfl rfl (zq rfl rfl) ?_)))))))))))
 refine zg rfl rfl (zN rfl rfl rfl) (zg rfl rfl (zN rfl rfl rfl) (zg rfl rfl (zW rfl rfl) (zg rfl rfl (zn rfl rfl) (zo (zf (zl (zh (zg rfl rfl (zy (av := []) rfl trivial d79) (zg rfl rfl (zy (av := []) rfl trivial d80) (zg rfl rfl (qg (size := 1) (rows := [[_]]) rfl Tryz.underlying26 zkv rfl (by decide) rfl (by decide) ⟨_, _, rfl, (kQ rfl), rfl⟩ (by rfl) (by simp [ofV]) rfl (by simp)) (zg rfl rfl (zy (av := [_, _]) rfl ⟨rfl, rfl, trivial⟩ d25) ?_)))))))))))
 refine zg rfl rfl (zq rfl rfl) (zg rfl rfl (zN rfl rfl rfl) (zg rfl rfl (zN rfl rfl rfl) (zg rfl rfl (zW rfl rfl) (zg rfl rfl (zn rfl rfl) (zo (zf (zl (zh (zg rfl rfl (zy (av := []) rfl trivial d79) (zg rfl rfl (zy (av := []) rfl trivial d80) (zg rfl rfl (qg (size := 1) (rows := [[_]]) rfl Tryz.underlying26 zkv rfl (by decide) rfl (by decide) ⟨_, _, rfl, (kQ rfl), rfl⟩ (by rfl) (by simp [ofV]) rfl (by simp)) ?_)))))))))))
 refine zg rfl rfl (zy (av := [_, _]) rfl ⟨rfl, rfl, trivial⟩ d43) (zg rfl rfl (zq rfl rfl) (zg rfl rfl (zN rfl rfl rfl) (zg rfl rfl (zN rfl rfl rfl) (zg rfl rfl (zN rfl rfl rfl) (zg rfl rfl (zn rfl rfl) (zg rfl rfl (zn rfl rfl) (zg rfl rfl (zn rfl rfl) (zo (zf (zl (zh ?_)))))))))))
 refine zg rfl rfl (zy (av := []) rfl trivial d79) (zg rfl rfl (zy (av := []) rfl trivial d81) (zg rfl rfl (zy (av := []) rfl trivial d82) (zg rfl rfl (qg (size := 1) (rows := [[_], [_]]) rfl Tryz.underlying26 zkv rfl (by decide) rfl (by decide) ⟨_, _, rfl, (kQ rfl), ⟨_, _, rfl, (kQ rfl), rfl⟩⟩ (by rfl) (by simp [ofV]) rfl (by simp)) (zg rfl rfl (zy (av := [_, _]) rfl ⟨rfl, rfl, trivial⟩ d37) (zg rfl rfl (zq rfl rfl) (zg rfl rfl (zN rfl rfl rfl) (zg rfl rfl (zN rfl rfl rfl) (zg rfl rfl (zW rfl rfl) (zg rfl rfl (zn rfl rfl) (zo (zf ?_)))))))))))
 refine zl (zh (zg rfl rfl (zy (av := []) rfl trivial d83) (zg rfl rfl (zy (av := [_, _, _]) rfl ⟨rfl, rfl, rfl, trivial⟩ d46) (zg rfl rfl (zq rfl rfl) (zg rfl rfl (zN rfl rfl rfl) (zg rfl rfl (zN rfl rfl rfl) (zg rfl rfl (zW rfl rfl) (zg rfl rfl (zn rfl rfl) (zo (zf (zl ?_)))))))))))
 refine zh (zg rfl rfl (zy (av := []) rfl trivial d79) (zg rfl rfl (zy (av := []) rfl trivial d83) (zg rfl rfl (qg (size := 1) (rows := [[_], [_]]) rfl Tryz.underlying23 ti3 rfl (by decide) rfl (by decide) ⟨_, _, rfl, (jG rfl), ⟨_, _, rfl, (jG rfl), rfl⟩⟩ (by rfl) (by simp [ofV]) rfl (by simp)) (zg rfl rfl (zy (av := [_, _, _]) rfl ⟨rfl, rfl, rfl, trivial⟩ d70) (zg rfl rfl (zq rfl rfl) (zg rfl rfl (zN rfl rfl rfl) (zg rfl rfl (zN rfl rfl rfl) (zg rfl rfl (zW rfl rfl) (zg rfl rfl (zn rfl rfl) (zo (zf ?_)))))))))))
 refine zl (zh (zg rfl rfl (zcb (cs := [_, _, _]) rfl zsY rfl ⟨_, _, rfl, (jG rfl), ⟨_, _, rfl, (jG rfl), ⟨_, _, rfl, (jG rfl), rfl⟩⟩⟩ (by rfl) (by simp [ofV])) (zg rfl rfl (zy (av := [_, _, _]) rfl ⟨rfl, rfl, rfl, trivial⟩ d50) (zg rfl rfl (zq rfl rfl) (zg rfl rfl (zN rfl rfl rfl) (zg rfl rfl (zN rfl rfl rfl) (zg rfl rfl (zn rfl rfl) (zg rfl rfl (zn rfl rfl) (zo (zf (zl ?_)))))))))))
 refine zh (zg rfl rfl (zy (av := []) rfl trivial d84) (zg rfl rfl (zy (av := [_, _, _, _, _]) rfl ⟨rfl, rfl, rfl, rfl, rfl, trivial⟩ d51) (zg rfl rfl (zq rfl rfl) (zg rfl rfl (zN rfl rfl rfl) (zg rfl rfl (zN rfl rfl rfl) (zg rfl rfl (zN rfl rfl rfl) (zg rfl rfl (zW rfl rfl) (zg rfl rfl (zn rfl rfl) (zg rfl rfl (zn rfl rfl) (zo (zf ?_)))))))))))
 refine zl (zh (zg rfl rfl (zy (av := []) rfl trivial d81) (zg rfl rfl (zy (av := [_, _]) rfl ⟨rfl, rfl, trivial⟩ d74) (zg rfl rfl (zq rfl rfl) (zg rfl rfl (zN rfl rfl rfl) (zg rfl rfl (zN rfl rfl rfl) (zg rfl rfl (zn rfl rfl) (zg rfl rfl (zn rfl rfl) (zo (zf (zl ?_)))))))))))
 refine zl (zh (zg rfl rfl (zi rfl rfl) (zg rfl rfl (wY rfl rfl rfl) (zg rfl rfl (zi rfl rfl) (zk rfl rfl rfl (fun hg => zi rfl rfl) (zk rfl rfl rfl (fun hg => wY rfl rfl rfl) (zg rfl rfl (qU rfl rfl rfl rfl) (zg rfl rfl (zi rfl rfl) (zk rfl rfl rfl (fun hg => zi rfl rfl) (zk rfl rfl rfl (fun hg => wY rfl rfl rfl) (zg rfl rfl (qU rfl rfl rfl rfl) ?_)))))))))))
 refine zg rfl rfl (zi rfl rfl) (zk rfl rfl rfl (fun hg => zi rfl rfl) (zk rfl rfl rfl (fun hg => wY rfl rfl rfl) (zg rfl rfl (qU rfl rfl rfl rfl) (zg rfl rfl (zi rfl rfl) (zk rfl rfl rfl (fun hg => zi rfl rfl) (zk rfl rfl rfl (fun hg => wY rfl rfl rfl) (zg rfl rfl (qU rfl rfl rfl rfl) (zg rfl rfl (zi rfl rfl) (zk rfl rfl rfl (fun hg => zi rfl rfl) (zk rfl rfl rfl (fun hg => wY rfl rfl rfl) (zg rfl rfl (qU rfl rfl rfl rfl) ?_)))))))))))
 refine zg rfl rfl (zi rfl rfl) (zk rfl rfl rfl (fun hg => zi rfl rfl) (zk rfl rfl rfl (fun hg => wY rfl rfl rfl) (zg rfl rfl (qU rfl rfl rfl rfl) (zg rfl rfl (zi rfl rfl) (zk rfl rfl rfl (fun hg => zi rfl rfl) (zk rfl rfl rfl (fun hg => wY rfl rfl rfl) (zg rfl rfl (qU rfl rfl rfl rfl) (zg rfl rfl (zi rfl rfl) (zk rfl rfl rfl (fun hg => zi rfl rfl) (zk rfl rfl rfl (fun hg => wY rfl rfl rfl) (zg rfl rfl (qU rfl rfl rfl rfl) ?_)))))))))))
 refine zo (zf (zx rfl (fun h0 => ?_) (fun h0 => ?_)))
 ·
  exfalso; simp at h0
 ·
  refine zC (zf (zl (zl (zh (zg rfl rfl (zq rfl rfl) (zg rfl rfl (qg (size := 1) (rows := [[_], [_]]) rfl Tryz.underlying23 ti3 rfl (by decide) rfl (by decide) ⟨_, _, rfl, (jG rfl), ⟨_, _, rfl, (jG rfl), rfl⟩⟩ (by rfl) (by simp [ofV]) rfl (by simp)) (zg rfl rfl (qg (size := 1) (rows := [[_], [_]]) rfl Tryz.underlying23 ti3 rfl (by decide) rfl (by decide) ⟨_, _, rfl, (jG rfl), ⟨_, _, rfl, (jG rfl), rfl⟩⟩ (by rfl) (by simp [ofV]) rfl (by simp)) (zg rfl rfl (qg (size := 1) (rows := [[_], [_]]) rfl Tryz.underlying30 zlT rfl (by decide) rfl (by decide) ⟨_, _, rfl, (kQ rfl), ⟨_, _, rfl, (kQ rfl), rfl⟩⟩ (by rfl) (by simp [ofV]) rfl (by simp)) (zg rfl rfl (zy (av := [_, _]) rfl ⟨rfl, rfl, trivial⟩ d28) (zg rfl rfl (je rfl rfl) (zg rfl rfl (zi rfl rfl) ?_)))))))))))
  refine zk rfl rfl rfl (fun hg => zq rfl rfl) (zk rfl rfl rfl (fun hg => qg (size := 1) (rows := [[_], [_]]) rfl Tryz.underlying34 ti9 rfl (by decide) rfl (by decide) ⟨_, _, rfl, (jG rfl), ⟨_, _, rfl, (jG rfl), rfl⟩⟩ (by rfl) (by simp [ofV]) rfl (by simp)) (zk rfl rfl rfl (fun hg => zy (av := [_, _]) rfl ⟨(rfl), (rfl), trivial⟩ (zsZ)) (zk rfl rfl rfl (fun hg => je rfl rfl) (zg rfl rfl (qU rfl rfl rfl rfl) (zg rfl rfl (zi rfl rfl) (zk rfl rfl rfl (fun hg => zi rfl rfl) (zk rfl rfl rfl (fun hg => wY rfl rfl rfl) (zg rfl rfl (qU rfl rfl rfl rfl) (zg rfl rfl (zi rfl rfl) (zk rfl rfl rfl (fun hg => zi rfl rfl) (zk rfl rfl rfl (fun hg => wY rfl rfl rfl) ?_)))))))))))
  refine zg rfl rfl (qU rfl rfl rfl rfl) (zg rfl rfl (zi rfl rfl) (zk rfl rfl rfl (fun hg => zq rfl rfl) (zk rfl rfl rfl (fun hg => qg (size := 1) (rows := [[_]]) rfl Tryz.underlying23 ti3 rfl (by decide) rfl (by decide) ⟨_, _, rfl, (jG rfl), rfl⟩ (by rfl) (by simp [ofV]) rfl (by simp)) (zk rfl rfl rfl (fun hg => zy (av := [_, _]) rfl ⟨(rfl), (rfl), trivial⟩ (zs8)) (zk rfl rfl rfl (fun hg => je rfl rfl) (zg rfl rfl (qU rfl rfl rfl rfl) (zo (zf (zx rfl (fun h1 => ?_) (fun h1 => ?_))))))))))
  ·
   exfalso; simp at h1
  ·
   refine zC (zf (zl (zh (zg rfl rfl (zq rfl rfl) (zg rfl rfl (qg (size := 1) (rows := [[_], [_]]) rfl Tryz.underlying23 ti3 rfl (by decide) rfl (by decide) ⟨_, _, rfl, (jG rfl), ⟨_, _, rfl, (jG rfl), rfl⟩⟩ (by rfl) (by simp [ofV]) rfl (by simp)) (zg rfl rfl (zy (av := [_, _]) rfl ⟨rfl, rfl, trivial⟩ (zte)) (zg rfl rfl (zi rfl rfl) (zk rfl rfl rfl (fun hg => zq rfl rfl) (zk rfl rfl rfl (fun hg => qg (size := 1) (rows := [[_], [_]]) rfl Tryz.underlying34 ti9 rfl (by decide) rfl (by decide) ⟨_, _, rfl, (jG rfl), ⟨_, _, rfl, (jG rfl), rfl⟩⟩ (by rfl) (by simp [ofV]) rfl (by simp)) (zk rfl rfl rfl (fun hg => zy (av := [_, _]) rfl ⟨(rfl), (rfl), trivial⟩ (ztg)) (zg rfl rfl (qJ rfl rfl rfl rfl) ?_)))))))))))
   refine zg rfl rfl (zi rfl rfl) (zk rfl rfl rfl (fun hg => zi rfl rfl) (zk rfl rfl rfl (fun hg => qI rfl rfl rfl) (zg rfl rfl (qJ rfl rfl rfl rfl) (zg rfl rfl (zi rfl rfl) (zk rfl rfl rfl (fun hg => zq rfl rfl) (zk rfl rfl rfl (fun hg => qg (size := 1) (rows := [[_], [_]]) rfl Tryz.underlying23 ti3 rfl (by decide) rfl (by decide) ⟨_, _, rfl, (jG rfl), ⟨_, _, rfl, (jG rfl), rfl⟩⟩ (by rfl) (by simp [ofV]) rfl (by simp)) (zk rfl rfl rfl (fun hg => zy (av := [_, _]) rfl ⟨(rfl), (rfl), trivial⟩ (zs3)) (zg rfl rfl (qJ rfl rfl rfl rfl) (zg rfl rfl (zi rfl rfl) (zk rfl rfl rfl (fun hg => zi rfl rfl) (zk rfl rfl rfl (fun hg => qI rfl rfl rfl) ?_)))))))))))
   refine zg rfl rfl (qJ rfl rfl rfl rfl) (zg rfl rfl (zi rfl rfl) (zk rfl rfl rfl (fun hg => zi rfl rfl) (zk rfl rfl rfl (fun hg => znN rfl rfl rfl) (zg rfl rfl (qJ rfl rfl rfl rfl) (zg rfl rfl (zn rfl rfl) (zo (zf (zP ?_))))))))
   exact ⟨.inr rfl, AVle.refl _⟩
end Go.Av
end
