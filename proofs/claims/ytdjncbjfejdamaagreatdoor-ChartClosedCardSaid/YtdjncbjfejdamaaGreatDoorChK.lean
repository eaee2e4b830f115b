/- ChartSharp. -/
import Derived.Test.YtdjncbjfejdamaaGreatDoorChO
import Derived.Test.YtdjncbjfejdamaaGreatDoorChF
import Derived.Test.YtdjncbjfejdamaaGreatDoorChJ
set_option linter.unusedVariables false
set_option linter.unusedSimpArgs false
section
namespace Go.Av
open Go.Proofs
set_option maxRecDepth 100000
set_option maxHeartbeats 1000000
variable {G:Glob}
def zWl (m:Mp):Bool:=decide ((m.st.length:Int) <= 16) && zNr m && zXu m
theorem f65 (m:Mp) (hm:okM m):ACall Tryz.prog G 65 [.agg (eMp m)] (.v (.bool (zXu m))):=by
 cases hc:zH5 m with
 | none=>have h:=zYv (G:=G) m hm hc; unfold zXu; rw [hc]; exact h
 | some p=>have h:=zYo (G:=G) m hm p hc; unfold zXu; rw [hc]; exact h
theorem zWg {m:Mp} (h:zWl m = true):okM m /\ zH5 m = none:=by
 unfold zWl zXu at h
 simp only[zLa, decide_eq_true_eq, Option.isNone_iff_eq_none] at h
 exact ⟨(zMw m).1 h.1.2, h.2⟩
theorem f44 (m:Mp):ACall Tryz.prog G 44 [.agg (eMp m)] (.v (.bool (zWl m))):=by
 refine zS Tryz.func44 rfl (by kernel_rfl) rfl ?_
 refine zuy (zh (zg rfl rfl (jf rfl (zY rfl)) (zg rfl rfl (zn rfl rfl) (zo (zf (zuy (zh (zg rfl rfl (zZ rfl rfl zMg (by exact zLb rfl)) (zg rfl rfl (zy (av:=[_]) rfl ⟨rfl, trivial⟩ (f20 m)) (zg rfl rfl (zi rfl rfl) (zk rfl rfl rfl (fun hg=>zZ rfl rfl zMg (by exact zLb rfl)) ?_)))))))))))
 refine zk rfl rfl rfl (fun hg=>zy (av:=[_]) rfl ⟨(by exact if_pos hg), trivial⟩ (f40 m)) ?_
 refine zg rfl rfl (qI rfl rfl rfl rfl) (zg rfl rfl (zi rfl rfl) (zk rfl rfl rfl (fun hg=>zZ rfl rfl zMg (by exact zLb rfl)) ?_))
 refine zk rfl rfl rfl (fun hg=>zy (av:=[_]) rfl ⟨(by exact if_pos hg), trivial⟩ (f65 m ((zMw m).1 (by have h:=hg; simp at h; exact h.2)))) ?_
 refine zg rfl rfl (qI rfl rfl rfl rfl) (zg rfl rfl (zn rfl rfl) (zo (zf (zP ?_))))
 exact ⟨.inr rfl, AVle.refl _⟩
end Go.Av
end
