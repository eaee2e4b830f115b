import Derived.Test.YtdjncbjfejdamaaGreatDoorExA
import Derived.Test.YtdjncbjfejdamaaGreatDoorExB
import Derived.Test.YtdjncbjfejdamaaGreatDoorExE
import Derived.KernelRfl
set_option linter.unusedVariables false
set_option linter.unusedSimpArgs false
section
namespace Go.Av
open Go.Proofs
set_option maxRecDepth 100000
set_option maxHeartbeats 1000000
variable {G:Glob}
theorem zIX:xn Tryz.prog 50 [(0, 1), (1, 1)] [.int .i64 0, .int .i64 0]:=⟨_, Tryz.underlying50, by kernel_rfl, by kernel_rfl⟩
theorem zPU:Tryz.prog.info? 50 = some Tryz.t50:=by kernel_rfl
theorem zPZ:Tryz.prog.info? 48 = some Tryz.t48:=by kernel_rfl
theorem kC:okM mapM:=(zMw mapM).1 (by kernel_rfl)
theorem d22:ACall Tryz.prog GT 22 [.agg (eMp mapM)] (.tup [.agg (zHF zNP), ei 0]):=drawM ▸ zQt mapM kC zQb
theorem known:KN GT:=by
 refine zS Tryz.func21 rfl (by kernel_rfl) rfl ?_
 refine zuy (zh (zg rfl rfl (zn rfl rfl) (zo (zf (zuy (zh (zg rfl rfl (zy (av:=[]) rfl trivial d60) (zg rfl rfl (zy (av:=[_]) rfl ⟨rfl, trivial⟩ d22) (zg rfl rfl (zq rfl rfl) (zg rfl rfl (zN rfl rfl rfl) (zg rfl rfl (zN rfl rfl rfl) ?_)))))))))))
 refine vI  rfl rfl rfl rfl rfl rfl rfl zNn zHQ rfl (by rfl) (zY rfl) rfl ?_
 refine zg rfl rfl (zn rfl rfl) (zo (zf (zuy (zh (zg rfl rfl (zZ rfl rfl zHQ (by exact zLb rfl)) (zg rfl rfl (zy (av:=[_]) rfl ⟨rfl, trivial⟩ d56) (zg rfl rfl (zq rfl rfl) (zg rfl rfl (zN rfl rfl rfl) (zg rfl rfl (zN rfl rfl rfl) (zg rfl rfl (zn rfl rfl) (zg rfl rfl (zn rfl rfl) ?_)))))))))))
 refine zo (zf (zuy (zh (zg rfl rfl (zZ rfl rfl zHQ (by exact zLb rfl)) (zg rfl rfl (zy (av:=[_, _]) rfl ⟨rfl, rfl, trivial⟩ (zRE)) (zg rfl rfl (zq rfl rfl) (zg rfl rfl (zN rfl rfl rfl) (zg rfl rfl (zN rfl rfl rfl) (zg rfl rfl (zW rfl rfl) (zg rfl rfl (zn rfl rfl) (zo ?_)))))))))))
 refine zf (zuy (zh (zg rfl rfl (zZ rfl rfl zHQ (by exact zLb rfl)) (zg rfl rfl (zy (av:=[_, _]) rfl ⟨rfl, rfl, trivial⟩ (zRO)) (zg rfl rfl (zq rfl rfl) (zg rfl rfl (zN rfl rfl rfl) (zg rfl rfl (zN rfl rfl rfl) (zg rfl rfl (zW rfl rfl) (zg rfl rfl (zn rfl rfl) (zo (zf ?_)))))))))))
 refine zuy (zh (zg rfl rfl (zy (av:=[]) rfl trivial d61) (zg rfl rfl (zy (av:=[_, _, _]) rfl ⟨rfl, rfl, rfl, trivial⟩ (zRI)) (zg rfl rfl (zq rfl rfl) (zg rfl rfl (zN rfl rfl rfl) (zg rfl rfl (zN rfl rfl rfl) (zg rfl rfl (zn rfl rfl) (zg rfl rfl (zn rfl rfl) (zo (zf (zuy ?_)))))))))))
 refine zh (zg rfl rfl (zy (av:=[]) rfl trivial d61) (zg rfl rfl (zy (av:=[_, _, _]) rfl ⟨rfl, rfl, rfl, trivial⟩ (zRs)) (zg rfl rfl (zq rfl rfl) (zg rfl rfl (zN rfl rfl rfl) (zg rfl rfl (zN rfl rfl rfl) (zg rfl rfl (zn rfl rfl) (zg rfl rfl (zn rfl rfl) (zo (zf (zuy (zh ?_)))))))))))
 refine zg rfl rfl (zy (av:=[]) rfl trivial d61) (zg rfl rfl (zy (av:=[_, _, _, _]) rfl ⟨rfl, rfl, rfl, rfl, trivial⟩ d39) (zg rfl rfl (zq rfl rfl) (zg rfl rfl (zN rfl rfl rfl) (zg rfl rfl (zN rfl rfl rfl) ?_))))
 refine vI  rfl rfl rfl rfl rfl rfl rfl zNn zHQ rfl (by rfl) (zY rfl) rfl ?_
 refine zg rfl rfl (zn rfl rfl) (zo (zf (zuy (zuy (zh (zg rfl rfl (zi rfl rfl) (zg rfl rfl (vg rfl rfl rfl) (zg rfl rfl (zi rfl rfl) (zk rfl rfl rfl (fun hg=>zi rfl rfl) (zk rfl rfl rfl (fun hg=>vg rfl rfl rfl) (zg rfl rfl (qU rfl rfl rfl rfl) ?_)))))))))))
 refine zg rfl rfl (zi rfl rfl) (zk rfl rfl rfl (fun hg=>zi rfl rfl) (zk rfl rfl rfl (fun hg=>vg rfl rfl rfl) (zg rfl rfl (qU rfl rfl rfl rfl) (zg rfl rfl (zi rfl rfl) (zk rfl rfl rfl (fun hg=>zi rfl rfl) (zk rfl rfl rfl (fun hg=>vg rfl rfl rfl) (zg rfl rfl (qU rfl rfl rfl rfl) (zg rfl rfl (zi rfl rfl) (zk rfl rfl rfl (fun hg=>zi rfl rfl) (zk rfl rfl rfl (fun hg=>vg rfl rfl rfl) (zg rfl rfl (qU rfl rfl rfl rfl) ?_)))))))))))
 refine zg rfl rfl (zi rfl rfl) (zk rfl rfl rfl (fun hg=>zi rfl rfl) (zk rfl rfl rfl (fun hg=>vg rfl rfl rfl) (zg rfl rfl (qU rfl rfl rfl rfl) (zg rfl rfl (zi rfl rfl) (zk rfl rfl rfl (fun hg=>zi rfl rfl) (zk rfl rfl rfl (fun hg=>vg rfl rfl rfl) (zg rfl rfl (qU rfl rfl rfl rfl) (zo (zf (zx rfl (fun h0=>?_) (fun h0=>?_)))))))))))
 ·
  exfalso; simp at h0
 ·
  refine zC (zf (zuy (zuy (zh (zg rfl rfl (zi rfl rfl) ?_)))))
  refine zg rfl rfl (zq5 (c:=.bool false) rfl rfl rfl (fun w=>by kernel_rfl) rfl) ?_
  refine zg rfl rfl (zi rfl rfl) (zk rfl rfl rfl (fun hg=>zi rfl rfl) (zk rfl rfl rfl (fun hg=>vg rfl rfl rfl) (zg rfl rfl (qU rfl rfl rfl rfl) (zg rfl rfl (zi rfl rfl) (zk rfl rfl rfl (fun hg=>zi rfl rfl) (zk rfl rfl rfl (fun hg=>vg rfl rfl rfl) (zg rfl rfl (qU rfl rfl rfl rfl) (zg rfl rfl (zi rfl rfl) (zk rfl rfl rfl (fun hg=>zZ rfl rfl zHQ (by exact zLb rfl)) ?_)))))))))
  refine zk rfl rfl rfl (fun hg=>qg (size:=1) (rows:=[[_], [_], [_], [_], [_], [_], [_], [_], [_]]) rfl Tryz.underlying27 ti3 rfl (by decide) rfl (by decide) ⟨_, _, rfl, (jF rfl), ⟨_, _, rfl, (jF rfl), ⟨_, _, rfl, (jF rfl), ⟨_, _, rfl, (jF rfl), ⟨_, _, rfl, (jF rfl), ⟨_, _, rfl, (jF rfl), ⟨_, _, rfl, (jF rfl), ⟨_, _, rfl, (jF rfl), ⟨_, _, rfl, (jF rfl), rfl⟩⟩⟩⟩⟩⟩⟩⟩⟩ (by rfl) (by simp [ofV]) rfl (by simp)) ?_
  refine zk rfl rfl rfl (fun hg=>zb3 (cs:=[_, _]) rfl zQH rfl ⟨_, _, rfl, (jF rfl), ⟨_, _, rfl, (kQ rfl), rfl⟩⟩ (by rfl) (by simp [ofV])) ?_
  refine zk rfl rfl rfl (fun hg=>zy (av:=[_, _]) rfl ⟨(rfl), (rfl), trivial⟩ zRB) (zk rfl rfl rfl (fun hg=>je rfl rfl) (zg rfl rfl (qU rfl rfl rfl rfl) (zo (zf (zx rfl (fun h1=>?_) (fun h1=>?_))))))
  ·
   exfalso; simp at h1
  ·
   refine zC (zf (zuy (zh (zg rfl rfl (zq rfl rfl) ?_))))
   refine zg rfl rfl (zb3 (cs:=[_, _]) rfl zIX rfl ⟨_, _, rfl, (jF rfl), ⟨_, _, rfl, (jF rfl), rfl⟩⟩ (by rfl) (by simp [ofV])) ?_
   refine zg rfl rfl (zb3 (cs:=[_, _]) rfl zIX rfl ⟨_, _, rfl, (jF rfl), ⟨_, _, rfl, (jF rfl), rfl⟩⟩ (by rfl) (by simp [ofV])) ?_
   refine zg rfl rfl (zb3 (cs:=[_, _]) rfl zIX rfl ⟨_, _, rfl, (jF rfl), ⟨_, _, rfl, (jF rfl), rfl⟩⟩ (by rfl) (by simp [ofV])) ?_
   refine zg rfl rfl (zb3 (cs:=[_, _]) rfl zIX rfl ⟨_, _, rfl, (jF rfl), ⟨_, _, rfl, (jF rfl), rfl⟩⟩ (by rfl) (by simp [ofV])) ?_
   refine zg rfl rfl (zb3 (cs:=[_, _]) rfl zIX rfl ⟨_, _, rfl, (jF rfl), ⟨_, _, rfl, (jF rfl), rfl⟩⟩ (by rfl) (by simp [ofV])) ?_
   refine zg rfl rfl (zb3 (cs:=[_, _]) rfl zIX rfl ⟨_, _, rfl, (jF rfl), ⟨_, _, rfl, (jF rfl), rfl⟩⟩ (by rfl) (by simp [ofV])) ?_
   refine zg rfl rfl (zb3 (cs:=[_, _]) rfl zIX rfl ⟨_, _, rfl, (jF rfl), ⟨_, _, rfl, (jF rfl), rfl⟩⟩ (by rfl) (by simp [ofV])) ?_
   refine zg rfl rfl (qg (size:=2) (rows:=[[_, _], [_, _], [_, _], [_, _], [_, _], [_, _], [_, _]]) rfl Tryz.underlying48 zPU rfl (by decide) rfl (by decide) ⟨_, _, rfl, (zY rfl), ⟨_, _, rfl, (zY rfl), ⟨_, _, rfl, (zY rfl), ⟨_, _, rfl, (zY rfl), ⟨_, _, rfl, (zY rfl), ⟨_, _, rfl, (zY rfl), ⟨_, _, rfl, (zY rfl), rfl⟩⟩⟩⟩⟩⟩⟩ (by rfl) (by simp [ofV]) rfl (by simp)) ?_
   refine zg rfl rfl (qg (size:=1) (rows:=[[_]]) rfl Tryz.underlying37 zPZ rfl (by decide) rfl (by decide) ⟨_, _, rfl, (kQ rfl), rfl⟩ (by rfl) (by simp [ofV]) rfl (by simp)) ?_
   refine zg rfl rfl (zy (av:=[_, _]) rfl ⟨rfl, rfl, trivial⟩ (zRz)) (zg rfl rfl (zi rfl rfl) (zk rfl rfl rfl (fun hg=>zq rfl rfl) ?_))
   refine zk rfl rfl rfl (fun hg=>zb3 (cs:=[_, _]) rfl zIX rfl ⟨_, _, rfl, (jF rfl), ⟨_, _, rfl, (jF rfl), rfl⟩⟩ (by rfl) (by simp [ofV])) ?_
   refine zk rfl rfl rfl (fun hg=>zb3 (cs:=[_, _]) rfl zIX rfl ⟨_, _, rfl, (jF rfl), ⟨_, _, rfl, (jF rfl), rfl⟩⟩ (by rfl) (by simp [ofV])) ?_
   refine zk rfl rfl rfl (fun hg=>zb3 (cs:=[_, _]) rfl zIX rfl ⟨_, _, rfl, (jF rfl), ⟨_, _, rfl, (jF rfl), rfl⟩⟩ (by rfl) (by simp [ofV])) ?_
   refine zk rfl rfl rfl (fun hg=>zb3 (cs:=[_, _]) rfl zIX rfl ⟨_, _, rfl, (jF rfl), ⟨_, _, rfl, (jF rfl), rfl⟩⟩ (by rfl) (by simp [ofV])) ?_
   refine zk rfl rfl rfl (fun hg=>qg (size:=2) (rows:=[[_, _], [_, _], [_, _], [_, _]]) rfl Tryz.underlying48 zPU rfl (by decide) rfl (by decide) ⟨_, _, rfl, (zY rfl), ⟨_, _, rfl, (zY rfl), ⟨_, _, rfl, (zY rfl), ⟨_, _, rfl, (zY rfl), rfl⟩⟩⟩⟩ (by rfl) (by simp [ofV]) rfl (by simp)) ?_
   refine zk rfl rfl rfl (fun hg=>qg (size:=1) (rows:=[[_]]) rfl Tryz.underlying37 zPZ rfl (by decide) rfl (by decide) ⟨_, _, rfl, (kQ rfl), rfl⟩ (by rfl) (by simp [ofV]) rfl (by simp)) ?_
   refine zk rfl rfl rfl (fun hg=>zy (av:=[_, _]) rfl ⟨(rfl), (rfl), trivial⟩ (zRA)) (zg rfl rfl (qI rfl rfl rfl rfl) (zg rfl rfl (zn rfl rfl) (zo (zf (zP ?_)))))
   exact ⟨.inr rfl, AVle.refl _⟩
end Go.Av
end
