import Derived.Test.YtdjncbjfejdamaaGreatDoorChE
set_option linter.unusedVariables false
set_option linter.unusedSimpArgs false
section
namespace Go.Av
open Go.Proofs
set_option maxRecDepth 100000
set_option maxHeartbeats 1000000
variable {G:Glob}
theorem f26 (f:Fld):ACall Tryz.prog G 26 [.agg (zHF f)] (.v (.bool (decide ((f.vals.length:Int) <= 40)))):=by
 refine zS Tryz.func26 rfl (by kernel_rfl) rfl ?_
 refine zuy (zh (zg rfl rfl (jf rfl (zY rfl)) (zg rfl rfl (zn rfl rfl) (zo (zf (zuy (zh (zg rfl rfl (zu rfl rfl zHx) (zg rfl rfl (zA rfl rfl rfl zHR) (zg rfl rfl (qh rfl rfl rfl Tryz.underlying27) (zg rfl rfl (zaq rfl rfl rfl) ?_)))))))))))
 refine zg rfl rfl (zn rfl rfl) (zo (zf (zP ?_)))
 exact ⟨.inr rfl, AVle.of (by simp)⟩
theorem zKS {l:List Int} {h:Int -> Bool} {k:Nat} (h0:(l.take k).any h = false) (hk:k < l.length) (h1:h l[k] = false):(l.take (k + 1)).any h = false:=by
 rw [List.take_succ_eq_append_getElem hk, List.any_append, h0]; simp [h1]
theorem zMW {l:List Int} {h:Int -> Bool} {k:Nat} (hk:k < l.length) (h1:h l[k] = true):l.any h = true:=List.any_eq_true.2 ⟨_, List.getElem_mem hk, h1⟩
end Go.Av
end
section
namespace Go.Av
open Go.Proofs
set_option maxRecDepth 100000
set_option maxHeartbeats 1000000
variable {G:Glob}
def zH2 (f:Fld):Bool:=inB f.wide 1 6 && (((f.vals.length:Int) % f.wide == 0) && inB ((f.vals.length:Int) / f.wide) 1 5)
def zJM (f:Fld):Bool:=!(f.vals.any fun n=>!inB n 0 99999)
def rowsOf (f:Fld):Int:=(f.vals.length:Int) / f.wide
end Go.Av
end
