import Derived.Test.YtgmbdadkbominaaGreatDoorPlatN
import Derived.Test.YtgmbdadkbominaaGreatDoorPlatJ
import Derived.Test.YtgmbdadkbominaaGreatDoorPlatB
import Derived.Test.YtgmbdadkbominaaGreatDoorPlatH
import Derived.Shelf.SlSortCmp.Whole1
import Derived.Laws.AppendOwn
import Derived.Test.YtgmbdadkbominaaGreatDoorPlatA
import Derived.Scope
import Derived.Test.YtgmbdadkbominaaGreatDoorPlatF
set_option linter.unusedVariables false
set_option linter.unusedSimpArgs false
section
namespace Go.Av
open Go.RowKit
section
variable {P:Program} {G:Glob} {st:ASt} {o:Oper}
end
end Go.Av
end
section
namespace Go.Av
open Go.RowKit
section
variable {F:Fence} {n:Nat} {P:Program} {md:Region.Mode}
end
section
variable {P:Program} {G:Glob} {md:Region.Mode}
end
section
variable {P:Program} {G:Glob} {st:ASt}
end
end Go.Av
end
section
namespace Go.Av
open Go.RowKit Go.Proofs
section
variable {P:Program} {G:Glob} {st:ASt} {o:Oper}
end
end Go.Av
end
section
namespace Go.Av
open Go.RowKit
theorem zDw {P:Program} {b:Frame} {a:Act} {k:List Item} {cs:List Frame} {w:World} {c:Code}:_root_.Go.step P (lone (b.atR a (.code (.scope c) :: k)) cs w) = .next (lone (b.atR a (.code c :: .inScope c :: k)) cs w):=
 step_lone_go (by simp [stepG, stepG.exec, Frame.atR])
theorem zD8 {P:Program} {b:Frame} {a:Act} {k:List Item} {cs:List Frame} {w:World} {c:Code}:_root_.Go.step P (lone (b.atR a (.inScope c :: k)) cs w) = .next (lone (b.atR a k) cs w):=
 step_lone_go (by simp [stepG, stepG.exec, Frame.atR])
theorem zDV {F:Fence} {n:Nat} {P:Program} {Q:Exit -> Act -> World -> Prop} {a:Act} {w:World} {c:Code} (h:c.wpIn F n P (Exit.noGoto Q) a w):(Code.scope c).wpIn F n P Q a w:=by
 intro b k cs hro hb hr
 have h0:(lone (b.atR a (.code (.scope c) :: k)) cs w).fenced P F:=fenced_calm hb hr rfl
 obtain ⟨e, a₁, w₁, hq, harr⟩:=h b (.inScope c :: k) cs hro hb hr
 cases e with
 | normal=>exact ⟨.normal, a₁, w₁, hq, .head h0 zDw (StepsIn.trans harr (.one (fenced_calm hb hr rfl) zD8))⟩
 | exit id=>
  have hx:exitTo id (.inScope c :: k) = exitTo id k:=by simp [exitTo]
  exact ⟨.exit id, a₁, w₁, hq, fun k' hk=>.head h0 zDw (harr.1 k' (by rw [hx]; exact hk)),
   fun hr' hk=>let ⟨k₁, h1, h2⟩:=harr.2 hr' (by rw [hx]; exact hk); ⟨k₁, h1, .head h0 zDw h2⟩⟩
 | goto l=>exact hq.elim
 | ret=>exact ⟨_, a₁, w₁, hq, .of_steps (.one h0 zDw) harr⟩
 | panic ch=>exact ⟨_, a₁, w₁, hq, .of_steps (.one h0 zDw) harr⟩
 | outgrown=>exact ⟨_, a₁, w₁, hq, .of_steps (.one h0 zDw) harr⟩
section
variable {r:Option Nat} {P:Program} {G:Glob} {st:ASt} {Q:Exit -> ASt -> Prop}
def zFj (Q:Exit -> ASt -> Prop):Exit -> ASt -> Prop
 | .goto _, _=>False
 | e, s=>Q e s
theorem zFW (h:Q .ret st):zFj Q .ret st:=h
theorem zFg {c:Code} (h:jl (r:=r) P G c st (zFj Q)):jl (r:=r) P G (.scope c) st Q:=fun w0 ok0 a w hG hok hs=>
 zDV (wpIn_mono (h w0 ok0 a w hG hok hs) fun e a w ⟨s, hs, hq⟩=>by
  cases e <;> first | exact ⟨s, hs, hq⟩ | exact hq.elim)
end
end Go.Av
end
section
namespace Go.Av
open Go.RowKit
section
variable {P:Program} {G:Glob} {st:ASt}
end
end Go.Av
end
