/- ChartClashes. · chart.Bounds, chart.Check. · ChartBounds. · Maps with just two stations. -/
import Derived.Test.YtdjncbjfejdamaaGreatDoorChE
import Derived.Laws.StructEq
import Derived.Tactics2
import Derived.StillTactics
set_option linter.unusedVariables false
set_option linter.unusedSimpArgs false
section
namespace Go.Av
open Go.Proofs
set_option maxRecDepth 100000
set_option maxHeartbeats 1000000
variable {G:Glob}
end Go.Av
end
section
namespace Go.Av
open Go.Proofs
set_option maxRecDepth 100000
set_option maxHeartbeats 1000000
variable {G:Glob}
end Go.Av
end
section
namespace Go.Av
open Go.Proofs
set_option maxRecDepth 100000
set_option maxHeartbeats 1000000
variable {G:Glob}
end Go.Av
end
section
namespace Go.Av
open Go.Proofs
set_option maxRecDepth 100000
set_option maxHeartbeats 1000000
variable {G:Glob}
theorem least {Q:Nat -> Prop} (n:Nat):Q n -> ∃ x, Q x /\ ∀ y, y < x -> ¬ Q y:=Nat.strongRecOn n fun n ih hn=>by
 by_cases h:∃ y, y < n /\ Q y
 ·
  obtain ⟨y, hy, hq⟩:=h; exact ih y hy hq
 ·
  exact ⟨n, hn, fun y hy hq=>h ⟨y, hy, hq⟩⟩
theorem zUN {p:Nat -> Nat -> Bool} {n:Nat} (h:zIy p n = none):∀ a b, a < b -> b < n -> p a b = false:=fun a b hab hb=>by
 cases hp:p a b with
 | false=>rfl
 | true=>
  obtain ⟨x, ⟨b0, hb0⟩, hmin⟩:=least (Q:=fun a=>∃ b, a < b /\ b < n /\ p a b = true) a ⟨b, hab, hb, hp⟩
  obtain ⟨y, ⟨h1, h2, h3⟩, hmin2⟩:=least (Q:=fun b=>x < b /\ b < n /\ p x b = true) b0 hb0
  have e:=zIS h1 h2 h3 (fun u hu v hv huv=>by
   cases hp:p u v with
   | false=>rfl
   | true=>exact absurd ⟨v, huv, hv, hp⟩ (hmin u hu)) (fun v hv hvb=>by
   cases hp:p x v with
   | false=>rfl
   | true=>exact absurd ⟨hv, by omega, hp⟩ (hmin2 v hvb))
  rw [h] at e; cases e
end Go.Av
end
