import Derived.Test.YtdjncbjfejdamaaGreatDoorChLA
set_option linter.unusedVariables false
set_option linter.unusedSimpArgs false
section
namespace Go.Av
open Go.Gr
set_option maxRecDepth 100000
section
variable {h:Nat -> Bool} {w r:Nat}
end
end Go.Av
end
section
namespace Go.Av
open Go.Gr
set_option maxRecDepth 100000
section
variable {h:Nat -> Bool} {w r:Nat}
end
end Go.Av
end
section
namespace Go.Av
open Go.Gr
set_option maxRecDepth 100000
section
variable {h:Nat -> Bool} {w r:Nat}
end
end Go.Av
end
section
namespace Go.Gr
set_option linter.unusedSectionVars false
variable {C:Type} [DecidableEq C] {nb:C -> List C} {all met R:List C}
structure FI (nb:C -> List C) (all met R:List C) (n:Nat) (t:List C) (x:C):Prop where
 pth:Pth nb (t ++ [x])
 sub:∀ y ∈ t ++ [x], y ∈ all
 nm:∀ y ∈ t ++ [x], y ∉ met
 len:all.length <= n + t.length
 eq:goW nb met n t x = R
def nxW (nb:C -> List C) (met out:List C) (x:C):Option C:=(nb x).find? fun y=>!decide (y ∈ met) && !decide (y ∈ out)
theorem zKj {l m:List C} (hl:l.Nodup) (hs:∀ y ∈ l, y ∈ m):l.length <= m.length:=List.Nodup.length_le_of_subset hl hs
theorem FI.go (cl:∀ x ∈ all, ∀ y ∈ nb x, y ∈ all) {n:Nat} {t:List C} {x y:C} (h:FI nb all met R n t x) (e:nxW nb met (t ++ [x]) x = some y):∃ m, n = m + 1 /\ FI nb all met R m (t ++ [x]) y:=by
 have hx:=h.sub x (by simp)
 have hy:=List.mem_of_find?_eq_some e
 have hp:=List.find?_some e
 simp only[zLa, Bool.not_eq_true', decide_eq_false_iff_not] at hp
 have hya:=cl x hx y hy
 cases n with
 | zero=>
  exfalso
  have h1:=h.pth.push hy hp.2
  have h2:=zKj h1.nd (m:=all) (fun z hz=>by
   rcases List.mem_append.1 hz with hz | hz
   ·
    exact h.sub z hz
   ·
    simp at hz; subst hz; exact hya)
  have:=h.len
  simp at h2
  omega
 | succ m=>
  refine ⟨m, rfl, h.pth.push hy hp.2, fun z hz=>?_, fun z hz=>?_, ?_, ?_⟩
  ·
   rcases List.mem_append.1 hz with hz | hz
   ·
    exact h.sub z hz
   ·
    simp at hz; subst hz; exact hya
  ·
   rcases List.mem_append.1 hz with hz | hz
   ·
    exact h.nm z hz
   ·
    simp at hz; subst hz; exact hp.1
  ·
   have:=h.len; simp; omega
  ·
   have he:=h.eq
   unfold goW at he
   unfold nxW at e
   rw [e] at he
   exact he
theorem SI.nil:SI nb all (([], []):List C × List (List C)):=⟨rfl, by simp, by simp⟩
theorem SI.le {s:List C × List (List C)} (h:SI nb all s):s.1.length <= all.length:=zKj h.nd h.sub
end Go.Gr
namespace Go.Av
open Go.Gr
end Go.Av
end
section
namespace Go.Av
set_option maxRecDepth 100000
end Go.Av
end
