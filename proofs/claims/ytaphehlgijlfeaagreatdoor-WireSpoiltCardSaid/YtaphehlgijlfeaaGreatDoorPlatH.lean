
import Derived.Test.YtaphehlgijlfeaaGreatDoorPlatG
set_option linter.unusedVariables false
set_option linter.unusedSimpArgs false
section
namespace Go.Av
open Go.RowKit
def kV {α : Type} [DecidableEq α] (a : α) : List α -> Option Nat
 | [] => none
 | b :: t => if b = a then some 0 else (kV a t).map (· + 1)
structure KeyT (P : Program) (kt : TypeId) {α : Type} [DecidableEq α] (enc : α -> Value) : Prop where
 check : ∀ (b : Bool) (a : α) (w : World), (Instr.checkKey b 10000 kt (enc a)).run P w = .ok () w
 find : ∀ (a : α) (l : List MapEntry) (as : List α) (w : World), l.map (·.key) = as.map enc -> (Instr.findKey kt (enc a) l).run P w = .ok ((kV a as).bind fun j => (l[j]?).map fun e => (j, e.val)) w
 bits : ∀ a : α, Instr.sameBits 10000 (enc a) (enc a) = true
section
variable {α : Type} [DecidableEq α]
end
section
variable {P : Program} {G : Glob} {fr : Nat -> EV} {mem : List PO} {o : Oper} {st : ASt} {α : Type} {enc : α -> Value}
variable [DecidableEq α]
theorem Sit.pushO {w0 : World} {ok0 : Nat -> Prop} {k : NS} {fr : Nat -> EV} {mem : List PO} {a : Act} {w w' : World} {ok : Nat -> Prop} {bs : List PB} {e : EV} {u : Value} {dst : Option Tmp} {b : PB} {o : PO}
  (h0 : a.tmps.size = k.n) (h1 : Nod w0 w a k) (h2 : Below w0.heap.size w0 w)
  (h3 : ∀ b, ok0 b -> ok b) (h4 : ∀ b, ok b -> ok0 b ∨ w0.heap.size <= b) (h5 : MemOK w0.heap.size ok w bs mem) (h6 : Slots ok w bs mem k fr a)
  (hw : Below w.heap.size w w') (hrow : ∀ rows, o = .row rows -> PRow ok w' (bs ++ [b]) (mem ++ [o]) b rows) (hmap : ∀ es, o = .map es -> zpL ok w' (bs ++ [b]) (mem ++ [o]) b es) (hnew : ∀ g, b.blk = some g -> w.heap.size <= g)
  (he : FitsE ok w' (bs ++ [b]) (mem ++ [o]) e u) (hd : DOK dst k) : Sit w0 ok0 ⟨k, jr fr dst e, mem ++ [o]⟩ (a.put dst u) w' := by
 refine ⟨(size_put ..).trans h0, h1.put (.of_below hw) hd, yf h2 h2.size hw, ok, bs ++ [b], h3, h4, h5.pushO hw h2.size hrow hmap hnew, ?_⟩
 exact wX (h6.map fun _ _ h => h.mono (fun _ hb => hb) (fun b hb => hw.block b (h5.lt b hb)) (Turn.push h5.len b _)) he (fun d e => by rw [h0]; exact (hd d e).1)
end
end Go.Av
end
section
namespace Go.Av
open Go.RowKit
inductive MOut where
 | ret (r : EV) (mem : List PO)
 | pan (v : AV) (mem : List PO)
def MOut.mem : MOut -> List PO
 | .ret _ m => m
 | .pan _ m => m
structure Own (w0 : World) (ok0 : Nat -> Prop) (mem : List PO) (gh : List (EV × Value)) (hold : List (Nat × Obj)) (ok : Nat -> Prop) (bs : List PB) (w : World) : Prop where
 below : Below w0.heap.size w0 w
 up : ∀ b, ok0 b -> ok b
 dn : ∀ b, ok b -> ok0 b ∨ w0.heap.size <= b
 mok : MemOK w0.heap.size ok w bs mem
 gh : ∀ p ∈ gh, FitsE ok w bs mem p.1 p.2
 hold : ∀ p ∈ hold, (still p.2 = true /\ w0.heap.size <= p.1) /\ w.heap[p.1]? = some p.2
def zjj (P : Program) (G : Glob) (f : FuncId) (args : List EV) (mem : List PO) (out : MOut) : Prop :=
 Enters P f /\ ∀ (w0 : World) (ok0 ok : Nat -> Prop) (bs : List PB) (w : World) (vs : List Value) (gh : List (EV × Value)) (hold : List (Nat × Obj)), G.holds w0 -> (∀ b, ok0 b -> b < w0.heap.size) -> Own w0 ok0 mem gh hold ok bs w -> FitsEL ok w bs mem args vs ->
  Calls P f vs.toArray w (fun e w' => ∃ ok' bs', Own w0 ok0 out.mem gh hold ok' bs' w' /\ ∃ u, match out with
   | .ret r m => e = .returned u /\ FitsE ok' w' bs' m r u
   | .pan v _ => e = .panicked (pnc u) /\ Fits ok' w' v u)
section
variable {P : Program} {G : Glob}
end
end Go.Av
end
section
namespace Go.Av
open Go.RowKit
section
variable {P : Program} {G : Glob} {st : ASt} {o : Oper}
theorem FitsEL.append {ok : Nat -> Prop} {w : World} {bs : List PB} {mem : List PO} : ∀ {l l' : List EV} {us us' : List Value}, FitsEL ok w bs mem l us -> FitsEL ok w bs mem l' us' -> FitsEL ok w bs mem (l ++ l') (us ++ us')
 | [], l', us, us', h, h' => by simp only [FitsEL] at h; subst h; simpa using h'
 | x :: xs, l', us, us', h, h' => by
  simp only [FitsEL] at h
  obtain ⟨u, us2, rfl, h1, h2⟩ := h
  simp only [List.cons_append, FitsEL]
  exact ⟨u, us2 ++ us', rfl, h1, FitsEL.append h2 h'⟩
theorem ACall.m {f : FuncId} {args : List AV} {r : AV} {mem : List PO} (h : ACall P G f args r) : zjj P G f (args.map .pub) mem (.ret (.pub r) mem) :=
 ⟨h.1, fun w0 ok0 ok bs w vs gh hold hG hok ho hfit => (h.2 ok w vs (G.stable _ _ hG ho.below) ho.mok.lt (FitsEL.pub.1 hfit)).mono fun e w' ⟨u, he, hb, hu⟩ => by
  refine ⟨okN ok w w', bs, ⟨yf ho.below ho.below.size hb, fun b hb' => .inl (ho.up b hb'), fun b hb' => ?_, ho.mok.grow hb, fun p hp => (ho.gh p hp).grow ho.mok.lt hb, fun p hp => ⟨(ho.hold p hp).1, ?_⟩⟩, u, he, by simpa only [FitsE] using hu⟩
  ·
   rcases hb' with h | h
   ·
    exact ho.dn b h
   ·
    exact .inr (Nat.le_trans ho.below.size h.1)
  ·
   rw [hb.block _ (Array.getElem?_eq_some_iff.1 (ho.hold p hp).2).1]; exact (ho.hold p hp).2⟩
end
end Go.Av
end
