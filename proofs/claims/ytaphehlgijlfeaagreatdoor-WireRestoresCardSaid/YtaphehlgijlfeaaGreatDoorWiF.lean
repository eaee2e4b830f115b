/- Can. · The reference's Can; brief. -/
import Derived.Test.YtaphehlgijlfeaaGreatDoorWiE
set_option linter.unusedVariables false
set_option linter.unusedSimpArgs false
section
namespace Go.Av
open Go.Proofs
set_option maxRecDepth 100000
set_option maxHeartbeats 1000000
set_option linter.unusedSimpArgs false
variable {G : Glob}

def figL (g : G5) : List Int := [g.a, g.b, g.c, g.d, g.e]
def figA (g : G5) (k : Nat) : Int := (figL g).getD k 0
/-- The characters of a group that was received, with the figures that were sent. -/
def five (g : G5) (w : List UInt8) : List (Int × Int) := (w.map fun b => (b.toNat : Int)).zip (figL g)
theorem five_len {g : G5} {w : List UInt8} (h : w.length = 5) : (five g w).length = 5 := by simp [five, figL, h]
theorem five_at {g : G5} {w : List UInt8} (h : w.length = 5) {k : Nat} (hk : k < 5) : (five g w)[k]'(by rw [five_len h]; exact hk) = ((w[k].toNat : Int), figA g k) := by
  have e : (figL g)[k]'(by simp [figL]; omega) = figA g k := by
    unfold figA
    rw [List.getD_eq_getElem?_getD, List.getElem?_eq_getElem (by simp [figL]; omega)]; rfl
  simp [five, e]
def okP (c : Cod) (x : Int × Int) : Bool := rgt x.1 x.2 || wrg c x.1 x.2
def wrN (x : Int × Int) : Int := if rgt x.1 x.2 then 0 else 1
def cntW (xs : List (Int × Int)) : Int := xs.foldl (fun s x => s + wrN x) 0
def cntP (l : List (List (Int × Int))) : Int := l.foldl (fun s xs => s + cntW xs) 0
theorem cntW_step {xs : List (Int × Int)} {k : Nat} (h : k < xs.length) : cntW (xs.take (k + 1)) = cntW (xs.take k) + wrN xs[k] := by
  unfold cntW; rw [List.take_succ_eq_append_getElem h, List.foldl_append]; rfl
theorem cntP_step {l : List (List (Int × Int))} {k : Nat} (h : k < l.length) : cntP (l.take (k + 1)) = cntP (l.take k) + cntW l[k] := by
  unfold cntP; rw [List.take_succ_eq_append_getElem h, List.foldl_append]; rfl
def prs (m : List Int) (l : List (List UInt8)) : List (List (Int × Int)) := ((grps m).zip l).map fun p => five p.1 p.2
def canB (c : Cod) (m : List Int) (l : List (List UInt8)) : Bool := ((prs m l).all fun xs => xs.all (okP c)) && decide (cntP (prs m l) ≤ c.most)
theorem prs_at {m : List Int} {l : List (List UInt8)} {q : Nat} (h1 : q < (grps m).length) (h2 : q < l.length) : (prs m l)[q]'(by simp [prs]; omega) = five (grps m)[q] l[q] := by simp [prs]
theorem cop_at {c : Cod} {l : List (List UInt8)} (h : copB c l = true) : (l.length : Int) = (c.fields.length : Int) + 1 ∧ ∀ w ∈ l, ofB copR w = true := by
  simp only [copB, Bool.and_eq_true, List.all_eq_true, beq_iff_eq] at h
  exact ⟨h.2.1, h.1⟩
theorem msg_len {c : Cod} {m : List Int} (h : msgB c m = true) : m.length = c.fields.length := by simp [msgB, eqF] at h; exact h.1

end Go.Av
end

section
namespace Go.Av
open Go.Proofs
set_option maxRecDepth 100000
set_option maxHeartbeats 1000000
set_option linter.unusedSimpArgs false
variable {G : Glob}

theorem chs_at {g : G5} {k : Nat} (h : k < 5) : g.chs[k]? = some (chD (figA g k)) := by
  match k, h with
  | 0, _ => rfl
  | 1, _ => rfl
  | 2, _ => rfl
  | 3, _ => rfl
  | 4, _ => rfl
theorem wrN_bd (x : Int × Int) : 0 ≤ wrN x ∧ wrN x ≤ 1 := by unfold wrN; split <;> omega
def brfB (l : List (List UInt8)) : Bool := decide (l.length ≤ 12) && l.all fun w => decide (w.length ≤ 9)
end Go.Av
end
