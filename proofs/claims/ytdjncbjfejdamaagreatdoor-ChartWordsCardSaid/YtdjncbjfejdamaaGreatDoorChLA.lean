import Derived.Test.YtdjncbjfejdamaaGreatDoorPlatH
set_option linter.unusedVariables false
set_option linter.unusedSimpArgs false
section
namespace Go.Gr
variable {C:Type} [DecidableEq C] (nb:C -> List C)
def goW (met:List C):Nat -> List C -> C -> List C
 | 0, out, x=>out ++ [x]
 | n + 1, out, x=>match (nb x).find? fun y=>!decide (y ∈ met) && !decide (y ∈ out ++ [x]) with
  | none=>out ++ [x]
  | some y=>goW met n (out ++ [x]) y
structure Pth (r:List C):Prop where
 nd:r.Nodup
 st:∀ i (h:i + 1 < r.length), r[i + 1] ∈ nb r[i]
variable {nb}
theorem Pth.push {out:List C} {x y:C} (h:Pth nb (out ++ [x])) (hy:y ∈ nb x) (hn:y ∉ out ++ [x]):Pth nb (out ++ [x] ++ [y]):=by
 have _:=(inferInstance:DecidableEq C)
 refine ⟨?_, fun i hi=>?_⟩
 ·
  rw [List.nodup_append]
  exact ⟨h.nd, by simp, fun a ha b hb=>by simp at hb; subst hb; intro e; subst e; exact hn ha⟩
 ·
  simp only[List.length_append, List.length_cons, List.length_nil] at hi
  by_cases h1:i + 1 < (out ++ [x]).length
  ·
   rw [List.getElem_append_left h1, List.getElem_append_left (by omega)]
   exact h.st i h1
  ·
   simp only[List.length_append, List.length_cons, List.length_nil] at h1
   have e:i = out.length:=by omega
   subst e
   have e1:(out ++ [x] ++ [y])[out.length + 1]'(by simp) = y:=by rw [List.getElem_append_right (by simp)]; simp
   have e2:(out ++ [x] ++ [y])[out.length]'(by simp) = x:=by rw [List.getElem_append_left (by simp), List.getElem_append_right (by simp)]; simp
   rw [e1, e2]; exact hy
structure Gph (nb:C -> List C) (all:List C):Prop where
 cl:∀ x ∈ all, ∀ y ∈ nb x, y ∈ all
 sym:∀ x ∈ all, ∀ y ∈ nb x, x ∈ nb y
 irr:∀ x ∈ all, x ∉ nb x
 nd:∀ x ∈ all, (nb x).Nodup
 two:∀ x ∈ all, (nb x).length <= 2
theorem other {l:List C} (h2:l.length = 2) (hn:l.Nodup) {a:C} (ha:a ∈ l):∃ b ∈ l, b ≠ a:=by
 have _:=(inferInstance:DecidableEq C)
 match l, h2 with
 | [x, y], _=>
  simp at ha hn
  rcases ha with rfl | rfl
  ·
   exact ⟨y, by simp, fun e=>hn e.symm⟩
  ·
   exact ⟨x, by simp, hn⟩
section
variable {all:List C} (G:Gph nb all) {r:List C} (hp:Pth nb r) (ha:∀ y ∈ r, y ∈ all)
include G hp ha
end
end Go.Gr
end
section
namespace Go.Gr
variable {C:Type} [DecidableEq C] (nb:C -> List C)
def ph (N most:Nat):List C -> List C × List (List C) -> List C × List (List C)
 | [], s=>s
 | c :: cs, s=>ph N most cs (if c ∈ s.1 ∨ most < (nb c).length then s else (s.1 ++ goW nb s.1 N [] c, s.2 ++ [goW nb s.1 N [] c]))
variable {nb} {all:List C}
structure LOK (nb:C -> List C) (all:List C) (r:List C):Prop where
 pth:Pth nb r
 pos:0 < r.length
 sub:∀ y ∈ r, y ∈ all
 cl:∀ x ∈ r, ∀ y ∈ nb x, y ∈ r
 ends:(nb r[0]).length < 2 ↔ (nb r[r.length - 1]).length < 2
structure SI (nb:C -> List C) (all:List C) (s:List C × List (List C)):Prop where
 flat:s.2.flatten = s.1
 nd:s.1.Nodup
 lines:∀ r ∈ s.2, LOK nb all r
theorem SI.cl {s:List C × List (List C)} (h:SI nb all s):∀ x ∈ all, x ∈ s.1 -> ∀ y ∈ nb x, y ∈ s.1:=fun x _ hx y hy=>by
 have _:=(inferInstance:DecidableEq C)
 rw [← h.flat] at hx ⊢
 obtain ⟨r, hr, hxr⟩:=List.mem_flatten.1 hx
 exact List.mem_flatten.2 ⟨r, hr, (h.lines r hr).cl x hxr y hy⟩
theorem SI.sub {s:List C × List (List C)} (h:SI nb all s):∀ x ∈ s.1, x ∈ all:=fun x hx=>by
 have _:=(inferInstance:DecidableEq C)
 rw [← h.flat] at hx
 obtain ⟨r, hr, hxr⟩:=List.mem_flatten.1 hx
 exact (h.lines r hr).sub x hxr
end Go.Gr
end
section
namespace Go.Av
set_option maxRecDepth 100000
abbrev Cr:=Nat × Nat
section
variable (h:Nat -> Bool) (w r:Nat)
end
section
variable {h:Nat -> Bool} {w r:Nat}
end
end Go.Av
end
section
namespace Go.Av
open Go.Gr
set_option maxRecDepth 100000
section
variable (h:Nat -> Bool) (w r:Nat)
end
section
variable (h:Nat -> Bool) (w r:Nat)
end
section
variable {h:Nat -> Bool} {w r:Nat}
end
end Go.Av
end
section
namespace Go.Av
open Go.Gr
set_option maxRecDepth 100000
def two {α:Type}:List α -> List (α × α)
 | [a, b]=>[(a, b)]
 | [a, b, c, d]=>[(a, b), (c, d)]
 | _=>[]
section
variable {h:Nat -> Bool} {w r:Nat}
end
end Go.Av
end
section
namespace Go.Av
open Go.Gr
set_option maxRecDepth 100000
section
variable {α:Type} {lt:α -> α -> Bool} (irr:∀ a, lt a a = false) (tr:∀ a b c, lt a b = true -> lt b c = true -> lt a c = true)
include irr tr in
include tr in
include tr in
include tr in
include tr in
include irr tr in
end
section
variable (h:Nat -> Bool) (w r:Nat)
end
section
variable {h:Nat -> Bool} {w r:Nat}
end
end Go.Av
end
