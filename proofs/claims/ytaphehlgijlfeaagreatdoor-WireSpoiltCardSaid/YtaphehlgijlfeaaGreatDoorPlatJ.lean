
import Derived.Test.YtaphehlgijlfeaaGreatDoorPlatH
import Derived.Test.YtaphehlgijlfeaaGreatDoorPlatE
set_option linter.unusedVariables false
set_option linter.unusedSimpArgs false
section
namespace Go.Av
open Go.RowKit
theorem zhy {n : NS} {fr : Nat -> EV} {mem : List PO} : Weak ⟨n, fr, mem⟩ ⟨n, fr, mem ++ [.row []]⟩ := by
 intro w0 ok0 a w ⟨h0, h1, h2, ok, bs, h3, h4, h5, h6⟩
 have ht := Turn.push h5.len ⟨none, 0, 0, 0⟩ (.row [])
 exact ⟨h0, h1, h2, ok, bs ++ [⟨none, 0, 0, 0⟩], h3, h4, h5.push (Below.refl _ _) h2.size ⟨by simp, fun _ => rfl, fun g hg => (by simp at hg), fun g hg => (by simp at hg)⟩ (fun g hg => by simp at hg),
  fun t => (h6.1 t).mono (fun _ hb => hb) (fun _ _ => rfl) ht, fun p hp => (h6.2 p hp).mono (fun _ hb => hb) (fun _ _ => rfl) ht⟩
end Go.Av
end
section
namespace Go.Av
open Go.RowKit
section
variable {P : Program} {G : Glob}
theorem zfU {α : Type} {st : ASt} {Q : Exit -> ASt -> Prop} {g : Operand} {ps : Array Tmp} {as bo : Code} {f : FuncId} {fs cs : List AV} (xs : List α) (qf : α -> List AV) (live : List Tmp) (V : Nat -> Prop) (I : Nat -> List PO) (hV0 : V 0)
  (hg : evO st.fr g = .pub (.fn f fs cs)) (hit : zlr P G f fs cs (xs.map qf)) (hm : st.mem = I 0) (hlen : ∀ x, (qf x).length = ps.size) (hpd : (ps.toList.all fun t => Nat.blt t st.n.n) = true) (hlv : (live.all fun t => Nat.blt t st.n.n) = true)
  (round : ∀ (k : Nat) (x : α) (gh : List (EV × Value)) (l : Nat) (h1 h2 : List (Nat × Obj)), xs[k]? = some x -> V k ->
   wL (r := some l) P G as ⟨NS.round st.n.n gh h1, zed (yu st.fr live) ps.toList (qf x), I k⟩ (fun e s => e = .normal /\ s.n = NS.round st.n.n gh h1 /\
    wL (r := some l) P G bo ⟨NS.round st.n.n gh h2, s.fr, s.mem⟩ (znH st.n.marked (NS.round st.n.n gh h2) (yu st.fr live) (V (k + 1)) (I (k + 1)) Q)))
  (hdone : V xs.length -> Q .normal ⟨st.n.marked, yu st.fr live, I xs.length⟩) : wL (r := none) P G (.rangeFunc g ps as bo) st Q := by
 refine zgY (qs := xs.map qf) live V I hV0 hg hit hm ?_ hpd hlv ?_ ?_
 ·
  intro q hq
  obtain ⟨x, _, rfl⟩ := List.mem_map.1 hq
  exact hlen x
 ·
  intro k q gh l h1 h2 hq hV
  rw [List.getElem?_map] at hq
  cases hx : xs[k]? with
  | none => rw [hx] at hq; cases hq
  | some x =>
   rw [hx] at hq
   injection hq with hq
   subst hq
   exact round k x gh l h1 h2 hx hV
 ·
  rw [List.length_map]; exact hdone
end
end Go.Av
end
section
namespace Go.Av
def ltL : List Int -> List Int -> Bool
 | [], [] => false
 | [], _ :: _ => true
 | _ :: _, [] => false
 | a :: as, b :: bs => if a = b then ltL as bs else decide (a < b)
def jB : Nat -> (Nat -> Int) -> Int
 | 0, _ => 0
 | n + 1, f => jB n f + f n
end Go.Av
end
