import Derived.Test.YtgmbdadkbominaaGreatDoorPlatH
set_option linter.unusedVariables false
set_option linter.unusedSimpArgs false
section
namespace Go.Av
open Go.RowKit
section
variable {P:Program} {G:Glob} {α:Type} {enc:α -> Value}
variable {o:Oper}
variable [DecidableEq α]
variable {o:Oper}
end
end Go.Av
end
section
namespace Go.Av
open Go.RowKit
theorem zwT {n:NS} {fr:Nat -> EV} {mem:List PO} (d:Nat):Weak ⟨n, fr, mem⟩ ⟨n, fr, mem.set d .dead⟩:=by
 intro w0 ok0 a w ⟨h0, h1, h2, ok, bs, h3, h4, h5, h6⟩
 have get:∀ (l:Nat) (o:PO), (mem.set d .dead)[l]? = some o -> o.live = true -> mem[l]? = some o:=fun l o h ho=>by
  by_cases e:d = l
  ·subst e
   by_cases hl:d < mem.length
   ·rw [List.getElem?_set_self hl] at h; injection h with h; subst h; cases ho
   ·rw [List.getElem?_eq_none (by simp; omega)] at h; cases h
  ·rwa [List.getElem?_set_ne e] at h
 have ht:Turn bs bs mem (mem.set d .dead):=⟨fun l b hb=>⟨b, hb, fun rows h=>⟨rows, get l _ h rfl, Nat.le_refl _, fun _=>rfl⟩⟩, fun l b b' es hb hb' h=>⟨⟨es, get l _ h rfl⟩, by rw [hb] at hb'; injection hb' with hb'; exact hb'.symm⟩⟩
 have hf:∀ (e:EV) (u:Value), FitsE ok w bs mem e u -> FitsE ok w bs (mem.set d .dead) e u:=fun e u h=>h.mono (fun _ hb=>hb) (fun _ _=>rfl) ht
 refine ⟨h0, h1, h2, ok, bs, h3, h4, ⟨by simp [h5.len], h5.lt, fun l b rows hb h=>?_, fun l b es hb h=>?_, fun l b o g hb h ho=>h5.own' l b o g hb (get l o h ho) ho, fun l l' b b' o o' g hb h ho hb' h' ho'=>h5.dist' l l' b b' o o' g hb (get l o h ho) ho hb' (get l' o' h' ho') ho'⟩, h6.map hf⟩
 ·have hr:=h5.row l b rows hb (get l _ h rfl)
  exact ⟨hr.size, hr.nil, hr.pos, fun g hg=>by
   obtain ⟨cur, c1, c2, c3, c4, c5⟩:=hr.blk g hg
   exact ⟨cur, c1, c2, c3, c4, fun i j r x e1 e2=>by
    obtain ⟨u, u1, u2, u3⟩:=c5 i j r x e1 e2
    exact ⟨u, u1, u2, hf _ _ u3⟩⟩⟩
 ·obtain ⟨g, arr, g1, g2, g3, g4⟩:=h5.mp l b es hb (get l _ h rfl)
  exact ⟨g, arr, g1, g2, g3, fun i k x e=>by
   obtain ⟨v, v1, v2⟩:=g4 i k x e
   exact ⟨v, v1, hf _ _ v2⟩⟩
section
variable {P:Program} {G:Glob} {α:Type} {enc:α -> Value} [DecidableEq α] {ops:Array Oper}
variable {fr:Nat -> EV} {o:Oper}
end
end Go.Av
end
section
namespace Go.Av
open Go.RowKit
section
variable {P:Program} {G:Glob} {st:ASt} {o:Oper}
end
end Go.Av
end
