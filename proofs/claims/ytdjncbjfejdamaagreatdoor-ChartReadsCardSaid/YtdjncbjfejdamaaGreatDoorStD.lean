/- The reference: Print. · Strings that are cut and joined. · A text that is printed is read. · The two printers agree. · ChartSheets. -/
import Derived.Test.YtdjncbjfejdamaaGreatDoorStC
set_option linter.unusedVariables false
set_option linter.unusedSimpArgs false
section
namespace Go.Av
open Go.Proofs
set_option maxRecDepth 100000
set_option maxHeartbeats 1000000
set_option linter.unusedSimpArgs false
variable {G : Glob}

def sepR (f : Fld) (i : Nat) : List UInt8 := if ((i : Int) % f.wide == 0) then [10] else [32]
def bodyK (f : Fld) (k : Nat) : List UInt8 := ((List.range k).map fun i => sepR f i ++ Lib.itoa (f.vals.getD i 0)).flatten
def sumK (f : Fld) (k : Nat) : Int := ((List.range k).map fun i => f.vals.getD i 0 * ((i : Int) / f.wide + 1)).sum
def headR (f : Fld) : List UInt8 := [99, 104, 97, 114, 116, 32] ++ Lib.itoa f.wide ++ [32] ++ Lib.itoa ((f.vals.length : Int) / f.wide)
def printR (f : Fld) : List UInt8 := headR f ++ bodyK f f.vals.length ++ [10, 101, 110, 100, 32] ++ Lib.itoa ((f.wide + sumK f f.vals.length) % 97 / 10) ++ Lib.itoa ((f.wide + sumK f f.vals.length) % 97 % 10) ++ [10]
end Go.Av
end

section
namespace Go.Av
open Go.Proofs
theorem join_cons2 (c : UInt8) (x y : List UInt8) (r : List (List UInt8)) : Lib.join (x :: y :: r) [c] = x ++ c :: Lib.join (y :: r) [c] := by
  rw [Lib.join_cons, Lib.join_cons]
  simp [Lib.joinTail]
theorem join_splitL (c : UInt8) : ∀ (s : List UInt8), Lib.join (splitL c s) [c] = s
  | [] => by simp [splitL, Lib.join_one]
  | x :: xs => by
    have ih := join_splitL c xs
    simp only [splitL]
    split
    · rename_i h
      cases hs : splitL c xs with
      | nil => exact absurd hs (splitL_ne c xs)
      | cons p ps => rw [join_cons2, ← hs, ih, h]; rfl
    · cases hs : splitL c xs with
      | nil => exact absurd hs (splitL_ne c xs)
      | cons p ps =>
        rw [hs] at ih
        simp only
        rw [Lib.join_cons] at ih ⊢
        rw [List.cons_append, ih]
theorem splitL_join {c : UInt8} : ∀ {ws : List (List UInt8)}, ws ≠ [] → (∀ w ∈ ws, ∀ x ∈ w, x ≠ c) → splitL c (Lib.join ws [c]) = ws
  | [], h, _ => absurd rfl h
  | [w], _, h => by rw [Lib.join_one]; exact splitL_none (h w (List.mem_cons_self ..))
  | w :: v :: r, _, h => by
    rw [join_cons2, splitL_hit (h w (List.mem_cons_self ..)), splitL_join (by simp) fun u hu => h u (List.mem_cons_of_mem _ hu)]
theorem dec_mem : ∀ (u : Nat), ∀ x ∈ Lib.decDigits u, 48 ≤ x.toNat ∧ x.toNat ≤ 57 := by
  intro u
  induction u using Nat.strongRecOn with
  | _ u ih =>
    intro x hx
    rw [Lib.decDigits] at hx
    split at hx
    · simp only [List.mem_singleton] at hx; subst hx
      have : (UInt8.ofNat (48 + u)).toNat = 48 + u := by rw [UInt8.toNat_ofNat']; omega
      omega
    · rcases List.mem_append.1 hx with hx | hx
      · exact ih (u / 10) (by omega) x hx
      · simp only [List.mem_singleton] at hx; subst hx
        have : (UInt8.ofNat (48 + u % 10)).toNat = 48 + u % 10 := by rw [UInt8.toNat_ofNat']; omega
        omega
theorem itoa_mem {n : Int} (h : 0 ≤ n) : ∀ x ∈ Lib.itoa n, 48 ≤ x.toNat ∧ x.toNat ≤ 57 := fun x hx => by
  unfold Lib.itoa at hx
  rw [if_neg (by omega)] at hx
  exact dec_mem _ x hx
theorem itoa_dig {n : Int} (h : 0 ≤ n) : ∀ x ∈ Lib.itoa n, isDig x = true := fun x hx => by
  have := itoa_mem h x hx
  unfold isDig; simp [this]
theorem numV_dec : ∀ (u : Nat), numV (Lib.decDigits u) = u := by
  intro u
  induction u using Nat.strongRecOn with
  | _ u ih =>
    rw [Lib.decDigits]
    split
    · rename_i h
      have : (UInt8.ofNat (48 + u)).toNat = 48 + u := by rw [UInt8.toNat_ofNat']; omega
      simp only [numV, List.foldl_cons, List.foldl_nil, this]; omega
    · rw [numV_snoc, ih (u / 10) (by omega)]
      have : (UInt8.ofNat (48 + u % 10)).toNat = 48 + u % 10 := by rw [UInt8.toNat_ofNat']; omega
      rw [this]; omega
theorem numV_itoa {n : Int} (h : 0 ≤ n) : numV (Lib.itoa n) = n := by
  unfold Lib.itoa
  rw [if_neg (by omega), numV_dec]; omega
theorem dec_len : ∀ (k u : Nat), 1 ≤ k → u < 10 ^ k → (Lib.decDigits u).length ≤ k
  | 0, _, h, _ => absurd h (by decide)
  | k + 1, u, _, h => by
    rw [Lib.decDigits]
    split
    · simp
    · rename_i hu
      have hk : 1 ≤ k := by
        cases k with
        | zero => simp at h; omega
        | succ k => omega
      have := dec_len k (u / 10) hk (by rw [Nat.pow_succ] at h; omega)
      simp only [List.length_append, List.length_cons, List.length_nil]; omega
theorem numOK_itoa {n : Int} (h : 0 ≤ n ∧ n ≤ 99999) : numOK (Lib.itoa n) = true := by
  unfold numOK
  rw [numV_itoa h.1]
  have h1 : Lib.itoa n ≠ [] := by have := itoa_ne n; intro e; rw [e] at this; simp at this
  have h2 : (Lib.itoa n).length ≤ 5 := by
    unfold Lib.itoa; rw [if_neg (by omega)]
    exact dec_len 5 _ (by decide) (by show n.toNat < 100000; omega)
  have h3 : (Lib.itoa n).all isDig = true := by rw [List.all_eq_true]; exact itoa_dig h.1
  simp [h1, h2, h3]
end Go.Av
end

section
namespace Go.Av
open Go.Proofs
def rowW (l : List Int) : List UInt8 := Lib.join (l.map Lib.itoa) [32]
def headW (wide : Int) (n : Nat) : List UInt8 := Lib.join [wChart, Lib.itoa wide, Lib.itoa (n : Int)] [32]
def endW (wide : Int) (vs : List (List Int)) : List UInt8 := Lib.join [wEnd, chkW (chkN wide vs)] [32]
def linesW (wide : Int) (vs : List (List Int)) : List (List UInt8) := headW wide vs.length :: (vs.map rowW ++ [endW wide vs, []])
theorem join_lines : ∀ (ls : List (List UInt8)), Lib.join (ls ++ [[]]) [10] = (ls.map (· ++ [10])).flatten
  | [] => by simp [Lib.join_one]
  | [l] => by simp [join_cons2, Lib.join_one]
  | l :: m :: r => by
    have := join_lines (m :: r)
    simp only [List.cons_append] at this ⊢
    rw [join_cons2, this]; simp
theorem text_lines (wide : Int) (vs : List (List Int)) : textL wide vs = Lib.join (linesW wide vs) [10] := by
  have e : linesW wide vs = (headW wide vs.length :: (vs.map rowW ++ [endW wide vs])) ++ [[]] := by simp [linesW]
  rw [e, join_lines]
  simp only [textL, headL, lineL, rowsL, headW, endW, List.map_cons, List.flatten_cons, List.map_append, List.flatten_append, List.map_map, List.map_nil, List.flatten_nil, List.append_nil, List.append_assoc]
  rfl
theorem dig_ne {c : UInt8} (hc : c.toNat < 48 ∨ 57 < c.toNat) {n : Int} (h : 0 ≤ n) : ∀ x ∈ Lib.itoa n, x ≠ c := fun x hx e => by
  have := itoa_mem h x hx
  rw [e] at this; omega
theorem join_no {c : UInt8} (hc : c ≠ 32) : ∀ {ws : List (List UInt8)}, (∀ w ∈ ws, ∀ x ∈ w, x ≠ c) → ∀ x ∈ Lib.join ws [32], x ≠ c
  | [], _, x, hx => by simp [Lib.join_nil] at hx
  | [w], h, x, hx => by rw [Lib.join_one] at hx; exact h w (List.mem_cons_self ..) x hx
  | w :: v :: r, h, x, hx => by
    rw [join_cons2] at hx
    rcases List.mem_append.1 hx with hx | hx
    · exact h w (List.mem_cons_self ..) x hx
    · rcases List.mem_cons.1 hx with rfl | hx
      · exact Ne.symm hc
      · exact join_no hc (fun u hu => h u (List.mem_cons_of_mem _ hu)) x hx
theorem chk_no {c : UInt8} (hc : c.toNat < 48 ∨ 57 < c.toNat) (wide : Int) (vs : List (List Int)) : ∀ x ∈ chkW (chkN wide vs), x ≠ c := fun x hx => by
  unfold chkW chkN at hx
  rcases List.mem_append.1 hx with hx | hx
  · exact dig_ne hc (by omega) x hx
  · exact dig_ne hc (by omega) x hx
theorem row_no {c : UInt8} (hc : c.toNat < 48 ∨ 57 < c.toNat) {l : List Int} (h : ∀ n ∈ l, 0 ≤ n ∧ n ≤ 99999) : ∀ w ∈ l.map Lib.itoa, ∀ x ∈ w, x ≠ c := fun w hw => by
  obtain ⟨n, hn, rfl⟩ := List.mem_map.1 hw
  exact dig_ne hc (h n hn).1
theorem lines_no {wide : Int} {vs : List (List Int)} (hw : 0 ≤ wide) (hv : ∀ l ∈ vs, ∀ n ∈ l, 0 ≤ n ∧ n ≤ 99999) : ∀ l ∈ linesW wide vs, ∀ x ∈ l, x ≠ 10 := fun l hl => by
  simp only [linesW, List.mem_cons, List.mem_append, List.mem_map, List.not_mem_nil, or_false] at hl
  rcases hl with rfl | ⟨r, hr, rfl⟩ | rfl | rfl
  · refine join_no (by decide) fun w hw2 => ?_
    simp only [List.mem_cons, List.not_mem_nil, or_false] at hw2
    rcases hw2 with rfl | rfl | rfl
    · decide
    · exact dig_ne (by decide) hw
    · exact dig_ne (by decide) (by omega)
  · exact join_no (by decide) (row_no (by decide) (hv r hr))
  · refine join_no (by decide) fun w hw2 => ?_
    simp only [List.mem_cons, List.not_mem_nil, or_false] at hw2
    rcases hw2 with rfl | rfl
    · decide
    · exact chk_no (by decide) wide vs
  · simp
theorem text_split {wide : Int} {vs : List (List Int)} (hw : 0 ≤ wide) (hv : ∀ l ∈ vs, ∀ n ∈ l, 0 ≤ n ∧ n ≤ 99999) : linesOf (textL wide vs) = linesW wide vs := by
  unfold linesOf; rw [text_lines]; exact splitL_join (by simp [linesW]) (lines_no hw hv)
theorem row_split {l : List Int} (h0 : l ≠ []) (h : ∀ n ∈ l, 0 ≤ n ∧ n ≤ 99999) : splitL 32 (rowW l) = l.map Lib.itoa := splitL_join (by simpa using h0) (row_no (by decide) h)
end Go.Av
end

section
namespace Go.Av
open Go.Proofs
theorem toNat_mul {k : Nat} {w : Int} (h : 0 ≤ w) : ((k : Int) * w).toNat = k * w.toNat := by
  obtain ⟨n, rfl⟩ := Int.eq_ofNat_of_zero_le h
  rw [← Int.natCast_mul, Int.toNat_natCast, Int.toNat_natCast]
theorem toNat_mul1 {k : Nat} {w : Int} (h : 0 ≤ w) : (((k : Int) + 1) * w).toNat = (k + 1) * w.toNat := by
  have := toNat_mul (k := k + 1) h
  rw [← this]; rfl
def gRow (f : Fld) (W k j : Nat) : List Int := (List.range j).map fun i => f.vals.getD (k * W + i) 0
end Go.Av
end

section
namespace Go.Av
open Go.Proofs
set_option maxRecDepth 100000
set_option maxHeartbeats 1000000
set_option linter.unusedSimpArgs false
variable {G : Glob}

theorem fieldB_iff {f : Fld} : fieldB f = true ↔ shapeB f = true ∧ valsB f = true := by unfold fieldB; simp
theorem same_self (f : Fld) : sameF f f = true := by simp [sameF]

end Go.Av
end
