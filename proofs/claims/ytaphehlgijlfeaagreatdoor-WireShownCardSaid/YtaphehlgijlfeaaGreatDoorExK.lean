import Derived.Test.YtaphehlgijlfeaaGreatDoorExA
import Derived.Test.YtaphehlgijlfeaaGreatDoorExB
import Derived.Test.YtaphehlgijlfeaaGreatDoorExC
import Derived.Test.YtaphehlgijlfeaaGreatDoorExD
import Derived.Test.YtaphehlgijlfeaaGreatDoorExE
import Derived.Test.YtaphehlgijlfeaaGreatDoorExF
import Derived.Test.YtaphehlgijlfeaaGreatDoorExG
import Derived.Test.YtaphehlgijlfeaaGreatDoorWiD
import Derived.KernelRfl
set_option linter.unusedVariables false
set_option linter.unusedSimpArgs false
section
namespace Go.Av
open Go.Proofs
set_option maxRecDepth 100000
set_option maxHeartbeats 1000000
variable {G:Glob}
theorem zj9:Tryz.prog.info? 34 = some Tryz.t34:=by kernel_rfl
theorem ti3:Tryz.prog.info? 3 = some Tryz.t3:=by kernel_rfl
theorem zsZ:xn Tryz.prog 70 [(0, 1), (1, 1), (2, 1)] [.int .i64 0, .int .i64 0, .int .i64 0]:=⟨_, Tryz.underlying70, by kernel_rfl, by kernel_rfl⟩
theorem zmt:Tryz.prog.info? 23 = some Tryz.t23:=by kernel_rfl
open Go.Bv in
theorem d28:ACall Tryz.prog GT 28 [jc [[75310, 27030], [75810, 27030]], jc [[75310, 27030], [75810, 27030]]] (.v (.bool true)):=qW jR gT (n:=10000) (drt:=drW) (by kernel_rfl)
open Go.Bv in
theorem zs4:ACall Tryz.prog GT 29 [jD [[55, 53, 63, 49, 48], [50, 55, 48, 51, 48]], jD [[55, 53, 63, 49, 48], [50, 55, 48, 51, 48]]] (.v (.bool true)):=qW jR gT (n:=10000) (drt:=drW) (by kernel_rfl)
open Go.Bv in
theorem zsY:ACall Tryz.prog GT 29 [jD [[97, 98, 97, 102, 116], [57, 50, 56, 52, 48]], jD [[97, 98, 97, 102, 116], [57, 50, 56, 52, 48]]] (.v (.bool true)):=qW jR gT (n:=10000) (drt:=drW) (by kernel_rfl)
open Go.Bv in
theorem ztm:ACall Tryz.prog GT 39 [zO [1], zO [1]] (.v (.bool true)):=qW jR gT (n:=10000) (drt:=drW) (by kernel_rfl)
open Go.Bv in
theorem ztn:ACall Tryz.prog GT 39 [zO [0, 2], zO [0, 2]] (.v (.bool true)):=qW jR gT (n:=10000) (drt:=drW) (by kernel_rfl)
open Go.Bv in
theorem zs7:ACall Tryz.prog GT 39 [zO [0, 1], zO [0, 1]] (.v (.bool true)):=qW jR gT (n:=10000) (drt:=drW) (by kernel_rfl)
theorem known:KN GT:=by
 refine zS Tryz.func23 rfl (by kernel_rfl) rfl ?_
 refine zuy (zh (zg rfl rfl (zn rfl rfl) (zo (zf (zuy (zh (zg rfl rfl (zy (av:=[]) rfl trivial d79) (zg rfl rfl (zy (av:=[]) rfl trivial d80) ?_))))))))
 refine zg rfl rfl (qg (size:=1) (rows:=[[_]]) rfl Tryz.underlying26 zj9 rfl (by decide) rfl (by decide) ⟨_, _, rfl, (kQ rfl), rfl⟩ (by rfl) (by simp [ofV]) rfl (by simp)) ?_
 refine zg rfl rfl (zy (av:=[_, _]) rfl ⟨rfl, rfl, trivial⟩ d24) (zg rfl rfl (zq rfl rfl) (zg rfl rfl (zN rfl rfl rfl) (zg rfl rfl (zN rfl rfl rfl) (zg rfl rfl (zW rfl rfl) (zg rfl rfl (zn rfl rfl) (zo (zf (zuy (zh (zg rfl rfl (zy (av:=[]) rfl trivial d79) (zg rfl rfl (zy (av:=[]) rfl trivial d80) ?_)))))))))))
 refine zg rfl rfl (qg (size:=1) (rows:=[[_]]) rfl Tryz.underlying26 zj9 rfl (by decide) rfl (by decide) ⟨_, _, rfl, (kQ rfl), rfl⟩ (by rfl) (by simp [ofV]) rfl (by simp)) ?_
 refine zg rfl rfl (zy (av:=[_, _]) rfl ⟨rfl, rfl, trivial⟩ d25) (zg rfl rfl (zq rfl rfl) (zg rfl rfl (zN rfl rfl rfl) (zg rfl rfl (zN rfl rfl rfl) (zg rfl rfl (zW rfl rfl) (zg rfl rfl (zn rfl rfl) (zo (zf (zuy (zh (zg rfl rfl (zy (av:=[]) rfl trivial d79) (zg rfl rfl (zy (av:=[]) rfl trivial d80) ?_)))))))))))
 refine zg rfl rfl (qg (size:=1) (rows:=[[_]]) rfl Tryz.underlying26 zj9 rfl (by decide) rfl (by decide) ⟨_, _, rfl, (kQ rfl), rfl⟩ (by rfl) (by simp [ofV]) rfl (by simp)) ?_
 refine zg rfl rfl (zy (av:=[_, _]) rfl ⟨rfl, rfl, trivial⟩ d43) (zg rfl rfl (zq rfl rfl) (zg rfl rfl (zN rfl rfl rfl) (zg rfl rfl (zN rfl rfl rfl) (zg rfl rfl (zN rfl rfl rfl) (zg rfl rfl (zn rfl rfl) (zg rfl rfl (zn rfl rfl) (zg rfl rfl (zn rfl rfl) (zo (zf (zuy (zh ?_)))))))))))
 refine zg rfl rfl (zy (av:=[]) rfl trivial d79) (zg rfl rfl (zy (av:=[]) rfl trivial d81) (zg rfl rfl (zy (av:=[]) rfl trivial d82) ?_))
 refine zg rfl rfl (qg (size:=1) (rows:=[[_], [_]]) rfl Tryz.underlying26 zj9 rfl (by decide) rfl (by decide) ⟨_, _, rfl, (kQ rfl), ⟨_, _, rfl, (kQ rfl), rfl⟩⟩ (by rfl) (by simp [ofV]) rfl (by simp)) ?_
 refine zg rfl rfl (zy (av:=[_, _]) rfl ⟨rfl, rfl, trivial⟩ d37) (zg rfl rfl (zq rfl rfl) (zg rfl rfl (zN rfl rfl rfl) (zg rfl rfl (zN rfl rfl rfl) (zg rfl rfl (zW rfl rfl) (zg rfl rfl (zn rfl rfl) (zo (zf (zuy (zh (zg rfl rfl (zy (av:=[]) rfl trivial d83) (zg rfl rfl (zy (av:=[_, _, _]) rfl ⟨rfl, rfl, rfl, trivial⟩ d46) ?_)))))))))))
 refine zg rfl rfl (zq rfl rfl) (zg rfl rfl (zN rfl rfl rfl) (zg rfl rfl (zN rfl rfl rfl) (zg rfl rfl (zW rfl rfl) (zg rfl rfl (zn rfl rfl) (zo (zf (zuy (zh (zg rfl rfl (zy (av:=[]) rfl trivial d79) (zg rfl rfl (zy (av:=[]) rfl trivial d83) ?_))))))))))
 refine zg rfl rfl (qg (size:=1) (rows:=[[_], [_]]) rfl Tryz.underlying23 ti3 rfl (by decide) rfl (by decide) ⟨_, _, rfl, (jF rfl), ⟨_, _, rfl, (jF rfl), rfl⟩⟩ (by rfl) (by simp [ofV]) rfl (by simp)) ?_
 refine zg rfl rfl (zy (av:=[_, _, _]) rfl ⟨rfl, rfl, rfl, trivial⟩ d70) (zg rfl rfl (zq rfl rfl) (zg rfl rfl (zN rfl rfl rfl) (zg rfl rfl (zN rfl rfl rfl) (zg rfl rfl (zW rfl rfl) (zg rfl rfl (zn rfl rfl) (zo (zf (zuy (zh ?_)))))))))
 refine zg rfl rfl (zb3 (cs:=[_, _, _]) rfl zsZ rfl ⟨_, _, rfl, (jF rfl), ⟨_, _, rfl, (jF rfl), ⟨_, _, rfl, (jF rfl), rfl⟩⟩⟩ (by rfl) (by simp [ofV])) ?_
 refine zg rfl rfl (zy (av:=[_, _, _]) rfl ⟨rfl, rfl, rfl, trivial⟩ d50) (zg rfl rfl (zq rfl rfl) (zg rfl rfl (zN rfl rfl rfl) (zg rfl rfl (zN rfl rfl rfl) (zg rfl rfl (zn rfl rfl) (zg rfl rfl (zn rfl rfl) (zo (zf (zuy (zh (zg rfl rfl (zy (av:=[]) rfl trivial d84) (zg rfl rfl (zy (av:=[_, _, _, _, _]) rfl ⟨rfl, rfl, rfl, rfl, rfl, trivial⟩ d51) ?_)))))))))))
 refine zg rfl rfl (zq rfl rfl) (zg rfl rfl (zN rfl rfl rfl) (zg rfl rfl (zN rfl rfl rfl) (zg rfl rfl (zN rfl rfl rfl) (zg rfl rfl (zW rfl rfl) (zg rfl rfl (zn rfl rfl) (zg rfl rfl (zn rfl rfl) (zo (zf (zuy (zh (zg rfl rfl (zy (av:=[]) rfl trivial d81) ?_)))))))))))
 refine zg rfl rfl (zy (av:=[_, _]) rfl ⟨rfl, rfl, trivial⟩ d74) (zg rfl rfl (zq rfl rfl) (zg rfl rfl (zN rfl rfl rfl) (zg rfl rfl (zN rfl rfl rfl) (zg rfl rfl (zn rfl rfl) (zg rfl rfl (zn rfl rfl) (zo (zf (zuy (zuy (zh (zg rfl rfl (zi rfl rfl) ?_)))))))))))
 refine zg rfl rfl (vg rfl rfl rfl) (zg rfl rfl (zi rfl rfl) (zk rfl rfl rfl (fun hg=>zi rfl rfl) (zk rfl rfl rfl (fun hg=>vg rfl rfl rfl) (zg rfl rfl (qU rfl rfl rfl rfl) (zg rfl rfl (zi rfl rfl) (zk rfl rfl rfl (fun hg=>zi rfl rfl) (zk rfl rfl rfl (fun hg=>vg rfl rfl rfl) (zg rfl rfl (qU rfl rfl rfl rfl) (zg rfl rfl (zi rfl rfl) (zk rfl rfl rfl (fun hg=>zi rfl rfl) (zk rfl rfl rfl (fun hg=>vg rfl rfl rfl) ?_)))))))))))
 refine zg rfl rfl (qU rfl rfl rfl rfl) (zg rfl rfl (zi rfl rfl) (zk rfl rfl rfl (fun hg=>zi rfl rfl) (zk rfl rfl rfl (fun hg=>vg rfl rfl rfl) (zg rfl rfl (qU rfl rfl rfl rfl) (zg rfl rfl (zi rfl rfl) (zk rfl rfl rfl (fun hg=>zi rfl rfl) (zk rfl rfl rfl (fun hg=>vg rfl rfl rfl) (zg rfl rfl (qU rfl rfl rfl rfl) (zg rfl rfl (zi rfl rfl) (zk rfl rfl rfl (fun hg=>zi rfl rfl) (zk rfl rfl rfl (fun hg=>vg rfl rfl rfl) ?_)))))))))))
 refine zg rfl rfl (qU rfl rfl rfl rfl) (zg rfl rfl (zi rfl rfl) (zk rfl rfl rfl (fun hg=>zi rfl rfl) (zk rfl rfl rfl (fun hg=>vg rfl rfl rfl) (zg rfl rfl (qU rfl rfl rfl rfl) (zg rfl rfl (zi rfl rfl) (zk rfl rfl rfl (fun hg=>zi rfl rfl) (zk rfl rfl rfl (fun hg=>vg rfl rfl rfl) (zg rfl rfl (qU rfl rfl rfl rfl) (zo (zf (zx rfl (fun h0=>?_) (fun h0=>?_))))))))))))
 ·
  exfalso; simp at h0
 ·
  refine zC (zf (zuy (zuy (zh (zg rfl rfl (zq rfl rfl) ?_)))))
  refine zg rfl rfl (qg (size:=1) (rows:=[[_], [_]]) rfl Tryz.underlying23 ti3 rfl (by decide) rfl (by decide) ⟨_, _, rfl, (jF rfl), ⟨_, _, rfl, (jF rfl), rfl⟩⟩ (by rfl) (by simp [ofV]) rfl (by simp)) ?_
  refine zg rfl rfl (qg (size:=1) (rows:=[[_], [_]]) rfl Tryz.underlying23 ti3 rfl (by decide) rfl (by decide) ⟨_, _, rfl, (jF rfl), ⟨_, _, rfl, (jF rfl), rfl⟩⟩ (by rfl) (by simp [ofV]) rfl (by simp)) ?_
  refine zg rfl rfl (qg (size:=1) (rows:=[[_], [_]]) rfl Tryz.underlying30 zmt rfl (by decide) rfl (by decide) ⟨_, _, rfl, (kQ rfl), ⟨_, _, rfl, (kQ rfl), rfl⟩⟩ (by rfl) (by simp [ofV]) rfl (by simp)) ?_
  refine zg rfl rfl (zy (av:=[_, _]) rfl ⟨rfl, rfl, trivial⟩ d28) (zg rfl rfl (je rfl rfl) (zg rfl rfl (zi rfl rfl) (zk rfl rfl rfl (fun hg=>zq rfl rfl) ?_)))
  refine zk rfl rfl rfl (fun hg=>qg (size:=1) (rows:=[[_], [_]]) rfl Tryz.underlying34 ti9 rfl (by decide) rfl (by decide) ⟨_, _, rfl, (jF rfl), ⟨_, _, rfl, (jF rfl), rfl⟩⟩ (by rfl) (by simp [ofV]) rfl (by simp)) ?_
  refine zk rfl rfl rfl (fun hg=>zy (av:=[_, _]) rfl ⟨(rfl), (rfl), trivial⟩ (zs4)) (zk rfl rfl rfl (fun hg=>je rfl rfl) (zg rfl rfl (qU rfl rfl rfl rfl) (zg rfl rfl (zi rfl rfl) (zk rfl rfl rfl (fun hg=>zi rfl rfl) (zk rfl rfl rfl (fun hg=>vg rfl rfl rfl) (zg rfl rfl (qU rfl rfl rfl rfl) (zg rfl rfl (zi rfl rfl) (zk rfl rfl rfl (fun hg=>zi rfl rfl) (zk rfl rfl rfl (fun hg=>vg rfl rfl rfl) (zg rfl rfl (qU rfl rfl rfl rfl) (zg rfl rfl (zi rfl rfl) ?_)))))))))))
  refine zk rfl rfl rfl (fun hg=>zq rfl rfl) ?_
  refine zk rfl rfl rfl (fun hg=>qg (size:=1) (rows:=[[_]]) rfl Tryz.underlying23 ti3 rfl (by decide) rfl (by decide) ⟨_, _, rfl, (jF rfl), rfl⟩ (by rfl) (by simp [ofV]) rfl (by simp)) ?_
  refine zk rfl rfl rfl (fun hg=>zy (av:=[_, _]) rfl ⟨(rfl), (rfl), trivial⟩ (ztm)) (zk rfl rfl rfl (fun hg=>je rfl rfl) (zg rfl rfl (qU rfl rfl rfl rfl) (zo (zf (zx rfl (fun h1=>?_) (fun h1=>?_))))))
  ·
   exfalso; simp at h1
  ·
   refine zC (zf (zuy (zh (zg rfl rfl (zq rfl rfl) ?_))))
   refine zg rfl rfl (qg (size:=1) (rows:=[[_], [_]]) rfl Tryz.underlying23 ti3 rfl (by decide) rfl (by decide) ⟨_, _, rfl, (jF rfl), ⟨_, _, rfl, (jF rfl), rfl⟩⟩ (by rfl) (by simp [ofV]) rfl (by simp)) ?_
   refine zg rfl rfl (zy (av:=[_, _]) rfl ⟨rfl, rfl, trivial⟩ (ztn)) (zg rfl rfl (zi rfl rfl) (zk rfl rfl rfl (fun hg=>zq rfl rfl) ?_))
   refine zk rfl rfl rfl (fun hg=>qg (size:=1) (rows:=[[_], [_]]) rfl Tryz.underlying34 ti9 rfl (by decide) rfl (by decide) ⟨_, _, rfl, (jF rfl), ⟨_, _, rfl, (jF rfl), rfl⟩⟩ (by rfl) (by simp [ofV]) rfl (by simp)) ?_
   refine zk rfl rfl rfl (fun hg=>zy (av:=[_, _]) rfl ⟨(rfl), (rfl), trivial⟩ (zsY)) (zg rfl rfl (qI rfl rfl rfl rfl) (zg rfl rfl (zi rfl rfl) (zk rfl rfl rfl (fun hg=>zi rfl rfl) (zk rfl rfl rfl (fun hg=>qJ rfl rfl rfl) (zg rfl rfl (qI rfl rfl rfl rfl) (zg rfl rfl (zi rfl rfl) (zk rfl rfl rfl (fun hg=>zq rfl rfl) ?_)))))))
   refine zk rfl rfl rfl (fun hg=>qg (size:=1) (rows:=[[_], [_]]) rfl Tryz.underlying23 ti3 rfl (by decide) rfl (by decide) ⟨_, _, rfl, (jF rfl), ⟨_, _, rfl, (jF rfl), rfl⟩⟩ (by rfl) (by simp [ofV]) rfl (by simp)) ?_
   refine zk rfl rfl rfl (fun hg=>zy (av:=[_, _]) rfl ⟨(rfl), (rfl), trivial⟩ (zs7)) (zg rfl rfl (qI rfl rfl rfl rfl) (zg rfl rfl (zi rfl rfl) (zk rfl rfl rfl (fun hg=>zi rfl rfl) (zk rfl rfl rfl (fun hg=>qJ rfl rfl rfl) (zg rfl rfl (qI rfl rfl rfl rfl) (zg rfl rfl (zi rfl rfl) (zk rfl rfl rfl (fun hg=>zi rfl rfl) (zk rfl rfl rfl (fun hg=>zof rfl rfl rfl) (zg rfl rfl (qI rfl rfl rfl rfl) (zg rfl rfl (zn rfl rfl) (zo ?_)))))))))))
   refine zf (zP ?_)
   exact ⟨.inr rfl, AVle.refl _⟩
end Go.Av
end
