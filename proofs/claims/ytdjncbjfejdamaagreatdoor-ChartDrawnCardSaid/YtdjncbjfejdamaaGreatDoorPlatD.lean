import Derived.Test.YtdjncbjfejdamaaGreatDoorPlatB
set_option linter.unusedVariables false
set_option linter.unusedSimpArgs false
section
namespace Go.Av
open Go.RowKit
section
variable {P:Program} {G:Glob} {st:ASt} {o:Oper}
theorem set_self {α:Type}:∀ {l:List α} {k:Nat} {x:α}, l[k]? = some x -> l.set k x = l
 | [], k, x, h=>by simp at h
 | y :: l, 0, x, h=>by simp at h; simp [h]
 | y :: l, k + 1, x, h=>by simp at h; simp [set_self h]
end
end Go.Av
end
