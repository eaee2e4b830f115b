/- ChartClashes. · chart.Bounds, chart.Check. · ChartBounds. · Maps with just two stations. -/
import Derived.Test.YtdjncbjfejdamaaGreatDoorChE
import Derived.Laws.StructEq
import Derived.Tactics2
import Derived.StillTactics
set_option linter.unusedVariables false
set_option linter.unusedSimpArgs false
section
namespace Go.Av
open Go.Proofs
set_option maxRecDepth 100000
set_option maxHeartbeats 1000000
variable {G:Glob}
end Go.Av
end
section
namespace Go.Av
open Go.Proofs
set_option maxRecDepth 100000
set_option maxHeartbeats 1000000
variable {G:Glob}
end Go.Av
end
section
namespace Go.Av
open Go.Proofs
set_option maxRecDepth 100000
set_option maxHeartbeats 1000000
variable {G:Glob}
end Go.Av
end
section
namespace Go.Av
open Go.Proofs
set_option maxRecDepth 100000
set_option maxHeartbeats 1000000
variable {G:Glob}
def zVV (m:Mp) (a b:Stn):Mp:={ m with st:=[a, b] }
theorem least {Q:Nat -> Prop} (n:Nat):Q n -> ∃ x, Q x /\ ∀ y, y < x -> ¬ Q y:=Nat.strongRecOn n fun n ih hn=>by
 by_cases h:∃ y, y < n /\ Q y
 ·
  obtain ⟨y, hy, hq⟩:=h; exact ih y hy hq
 ·
  exact ⟨n, hn, fun y hy hq=>h ⟨y, hy, hq⟩⟩
theorem zUN {p:Nat -> Nat -> Bool} {n:Nat} (h:zIy p n = none):∀ a b, a < b -> b < n -> p a b = false:=fun a b hab hb=>by
 cases hp:p a b with
 | false=>rfl
 | true=>
  obtain ⟨x, ⟨b0, hb0⟩, hmin⟩:=least (Q:=fun a=>∃ b, a < b /\ b < n /\ p a b = true) a ⟨b, hab, hb, hp⟩
  obtain ⟨y, ⟨h1, h2, h3⟩, hmin2⟩:=least (Q:=fun b=>x < b /\ b < n /\ p x b = true) b0 hb0
  have e:=zIS h1 h2 h3 (fun u hu v hv huv=>by
   cases hp:p u v with
   | false=>rfl
   | true=>exact absurd ⟨v, huv, hv, hp⟩ (hmin u hu)) (fun v hv hvb=>by
   cases hp:p x v with
   | false=>rfl
   | true=>exact absurd ⟨hv, by omega, hp⟩ (hmin2 v hvb))
  rw [h] at e; cases e
theorem f49 (m:Mp) (i k:Nat) (hi:i < m.st.length) (hk:k < m.st.length) (hl:m.st.length <= 16):ACall Tryz.prog G 49 [.agg (eMp m), .v (.int .i64 (i:Int)), .v (.int .i64 (k:Int))] (.agg (eMp (zVV m m.st[i] m.st[k]))):=by
 refine zS Tryz.func49 rfl (by kernel_rfl) rfl ?_
 refine zuy (zh (zg rfl rfl (jf rfl (zY rfl)) (jb rfl (wJ rfl rfl zVS rfl rfl) (zo (zf (zuy (zh (zg rfl rfl (zZ rfl rfl zMg (by exact zLb rfl)) (jb rfl (wJ rfl rfl zVS rfl rfl) ?_)))))))))
 refine jb rfl (qG rfl rfl rfl rfl rfl rfl (zY rfl) zMg (by rfl) (by exact zLb rfl)) ?_
 refine zo (zf (zuy ?_))
 refine wR (fun m=>∃ rows, m[1]? = some (.row rows) /\ rows.length = 1) (fun k=>match k with | 12=>.writes | _=>.here) mixed (by kernel_rfl) rfl (by kernel_rfl) ⟨_, rfl, rfl⟩ ?_
 refine zX rfl rfl (zu rfl rfl zHN) (zX rfl rfl (zA rfl rfl rfl zah) (zX rfl rfl (zi rfl rfl) (zX rfl rfl (zG rfl rfl rfl zjm (by omega) (zIR hi) zIs) (zX rfl rfl (zZ rfl rfl zIf (by exact zLb rfl)) (zX rfl rfl (zu rfl rfl zHN) (zX rfl rfl (zA rfl rfl rfl zah) (zX rfl rfl (zi rfl rfl) (zX rfl rfl (zG rfl rfl rfl zjm (by omega) (zIR hk) zIs) (zX rfl rfl (zZ rfl rfl zIf (by exact zLb rfl)) ?_)))))))))
 refine zX rfl rfl (qg (size:=3) (rows:=[[_, _, _], [_, _, _]]) rfl Tryz.underlying22 zVX rfl (by decide) rfl (by decide) ⟨_, _, rfl, (zY rfl), ⟨_, _, rfl, (zY rfl), rfl⟩⟩ (by rfl) (by simp [ofV]) rfl (by simp)) ?_
 refine zX rfl rfl (qE rfl rfl rfl rfl zHN) ?_
 refine zaw rfl rfl (jk rfl rfl rfl rfl rfl rfl (kQ rfl) zah (by rfl) (by rfl)) ⟨_, rfl, rfl⟩ ?_
 refine wQ (zf (zuy (zh (zg rfl rfl (qN (cs:=[_, _, _, _]) rfl rfl rfl rfl rfl (by exact zLb rfl) rfl zMg) ?_))))
 refine jb rfl (qG rfl rfl rfl rfl rfl rfl (zY rfl) zMg (by rfl) (by exact zLb rfl)) ?_
 refine zo (zf (zP ?_))
 exact ⟨.inr rfl, zhe rfl (jK rfl rfl rfl rfl zMg rfl ⟨_, _, rfl, AVle.refl _, ⟨_, _, rfl, AVle.refl _, ⟨_, _, rfl, AVle.refl _, ⟨_, _, rfl, AVle.refl _, rfl⟩⟩⟩⟩)⟩
end Go.Av
end
