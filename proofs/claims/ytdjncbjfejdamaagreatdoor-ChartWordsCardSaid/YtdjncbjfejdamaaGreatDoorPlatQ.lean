import Derived.Test.YtdjncbjfejdamaaGreatDoorPlatJ
import Derived.Test.YtdjncbjfejdamaaGreatDoorPlatB
import Derived.Test.YtdjncbjfejdamaaGreatDoorPlatH
import Derived.Test.YtdjncbjfejdamaaGreatDoorPlatM
import Derived.Test.YtdjncbjfejdamaaGreatDoorPlatA
import Derived.Scope
import Derived.Test.YtdjncbjfejdamaaGreatDoorPlatF
set_option linter.unusedVariables false
set_option linter.unusedSimpArgs false
section
namespace Go.Av
open Go.RowKit
section
variable {P:Program} {G:Glob} {st:ASt} {o:Oper}
end
end Go.Av
end
section
namespace Go.Av
open Go.RowKit
section
variable {F:Fence} {n:Nat} {P:Program} {md:Region.Mode}
def waits (md:Region.Mode) (l:List Oper) (i:Nat):List Nat:=match l[i]? with
 | some o=>o.after.toList.filterMap fun e=>if Region.binds md e then some e.on else none
 | none=>[]
def Closd (md:Region.Mode) (l:List Oper) (s:Nat -> Bool):Prop:=∀ i o, l[i]? = some o -> s i = true -> ∀ e ∈ o.after, Region.binds md e = true -> s e.on = true
end
section
variable {P:Program} {G:Glob} {md:Region.Mode}
theorem Closd.set {l:List Oper} {s:Array Bool} (hc:Closd md l (fun i=>s.getD i false)) {i:Nat} (hr:i ∈ Region.ready md l.toArray s):Closd md l (fun j=>(s.setIfInBounds i true).getD j false):=by
 intro j oj hj hsj e he hb
 obtain ⟨h0, o', ho', h4⟩:=mem_ready.1 hr
 by_cases hie:i = e.on
 ·
  simp only[← hie]
  have hlt:i < s.size:=by
   rcases Nat.lt_or_ge i s.size with h | h
   ·
    exact h
   ·
    simp [Array.getD_eq_getD_getElem?, Array.getElem?_eq_none h] at h0
  simp [Array.getD_eq_getD_getElem?, hlt]
 ·
  simp only[getD_set_ne _ hie]
  by_cases hij:i = j
  ·
   subst hij
   have e5:o' = oj:=by
    simp only[List.getElem?_toArray] at ho'
    rw [ho'] at hj; injection hj
   subst e5
   exact h4 e he hb
  ·
   simp only[getD_set_ne _ hij] at hsj
   exact hc j oj hj hsj e he hb
end
section
variable {P:Program} {G:Glob} {st:ASt}
end
end Go.Av
end
section
namespace Go.Av
open Go.RowKit Go.Proofs
section
variable {P:Program} {G:Glob} {st:ASt} {o:Oper}
end
end Go.Av
end
section
namespace Go.Av
open Go.RowKit
section
variable {r:Option Nat} {P:Program} {G:Glob} {st:ASt} {Q:Exit -> ASt -> Prop}
end
end Go.Av
end
section
namespace Go.Av
open Go.RowKit
section
variable {P:Program} {G:Glob} {st:ASt}
end
end Go.Av
end
