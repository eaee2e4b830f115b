/- The reference: Print. · Strings that are cut and joined. · A text that is printed is read. · The two printers agree. · ChartSheets. -/
import Derived.Test.YtdjncbjfejdamaaGreatDoorStC
set_option linter.unusedVariables false
set_option linter.unusedSimpArgs false
section
namespace Go.Av
open Go.Proofs
set_option maxRecDepth 100000
set_option maxHeartbeats 1000000
set_option linter.unusedSimpArgs false
variable {G : Glob}

def sepR (f : Fld) (i : Nat) : List UInt8 := if ((i : Int) % f.wide == 0) then [10] else [32]
def bodyK (f : Fld) (k : Nat) : List UInt8 := ((List.range k).map fun i => sepR f i ++ Lib.itoa (f.vals.getD i 0)).flatten
def sumK (f : Fld) (k : Nat) : Int := ((List.range k).map fun i => f.vals.getD i 0 * ((i : Int) / f.wide + 1)).sum
def headR (f : Fld) : List UInt8 := [99, 104, 97, 114, 116, 32] ++ Lib.itoa f.wide ++ [32] ++ Lib.itoa ((f.vals.length : Int) / f.wide)
def printR (f : Fld) : List UInt8 := headR f ++ bodyK f f.vals.length ++ [10, 101, 110, 100, 32] ++ Lib.itoa ((f.wide + sumK f f.vals.length) % 97 / 10) ++ Lib.itoa ((f.wide + sumK f f.vals.length) % 97 % 10) ++ [10]
theorem body_snoc (f : Fld) (k : Nat) : bodyK f (k + 1) = bodyK f k ++ (sepR f k ++ Lib.itoa (f.vals.getD k 0)) := by
  unfold bodyK; rw [List.range_succ, List.map_append, List.flatten_append]; simp
theorem sumK_snoc (f : Fld) (k : Nat) : sumK f (k + 1) = sumK f k + f.vals.getD k 0 * ((k : Int) / f.wide + 1) := by
  unfold sumK; rw [List.range_succ, List.map_append, List.sum_append]; simp
end Go.Av
end

section
namespace Go.Av
open Go.Proofs
theorem join_cons2 (c : UInt8) (x y : List UInt8) (r : List (List UInt8)) : Lib.join (x :: y :: r) [c] = x ++ c :: Lib.join (y :: r) [c] := by
  rw [Lib.join_cons, Lib.join_cons]
  simp [Lib.joinTail]
theorem splitL_join {c : UInt8} : ∀ {ws : List (List UInt8)}, ws ≠ [] → (∀ w ∈ ws, ∀ x ∈ w, x ≠ c) → splitL c (Lib.join ws [c]) = ws
  | [], h, _ => absurd rfl h
  | [w], _, h => by rw [Lib.join_one]; exact splitL_none (h w (List.mem_cons_self ..))
  | w :: v :: r, _, h => by
    rw [join_cons2, splitL_hit (h w (List.mem_cons_self ..)), splitL_join (by simp) fun u hu => h u (List.mem_cons_of_mem _ hu)]
theorem dec_mem : ∀ (u : Nat), ∀ x ∈ Lib.decDigits u, 48 ≤ x.toNat ∧ x.toNat ≤ 57 := by
  intro u
  induction u using Nat.strongRecOn with
  | _ u ih =>
    intro x hx
    rw [Lib.decDigits] at hx
    split at hx
    · simp only [List.mem_singleton] at hx; subst hx
      have : (UInt8.ofNat (48 + u)).toNat = 48 + u := by rw [UInt8.toNat_ofNat']; omega
      omega
    · rcases List.mem_append.1 hx with hx | hx
      · exact ih (u / 10) (by omega) x hx
      · simp only [List.mem_singleton] at hx; subst hx
        have : (UInt8.ofNat (48 + u % 10)).toNat = 48 + u % 10 := by rw [UInt8.toNat_ofNat']; omega
        omega
theorem itoa_mem {n : Int} (h : 0 ≤ n) : ∀ x ∈ Lib.itoa n, 48 ≤ x.toNat ∧ x.toNat ≤ 57 := fun x hx => by
  unfold Lib.itoa at hx
  rw [if_neg (by omega)] at hx
  exact dec_mem _ x hx
theorem itoa_dig {n : Int} (h : 0 ≤ n) : ∀ x ∈ Lib.itoa n, isDig x = true := fun x hx => by
  have := itoa_mem h x hx
  unfold isDig; simp [this]
theorem numV_dec : ∀ (u : Nat), numV (Lib.decDigits u) = u := by
  intro u
  induction u using Nat.strongRecOn with
  | _ u ih =>
    rw [Lib.decDigits]
    split
    · rename_i h
      have : (UInt8.ofNat (48 + u)).toNat = 48 + u := by rw [UInt8.toNat_ofNat']; omega
      simp only [numV, List.foldl_cons, List.foldl_nil, this]; omega
    · rw [numV_snoc, ih (u / 10) (by omega)]
      have : (UInt8.ofNat (48 + u % 10)).toNat = 48 + u % 10 := by rw [UInt8.toNat_ofNat']; omega
      rw [this]; omega
theorem numV_itoa {n : Int} (h : 0 ≤ n) : numV (Lib.itoa n) = n := by
  unfold Lib.itoa
  rw [if_neg (by omega), numV_dec]; omega
theorem dec_len : ∀ (k u : Nat), 1 ≤ k → u < 10 ^ k → (Lib.decDigits u).length ≤ k
  | 0, _, h, _ => absurd h (by decide)
  | k + 1, u, _, h => by
    rw [Lib.decDigits]
    split
    · simp
    · rename_i hu
      have hk : 1 ≤ k := by
        cases k with
        | zero => simp at h; omega
        | succ k => omega
      have := dec_len k (u / 10) hk (by rw [Nat.pow_succ] at h; omega)
      simp only [List.length_append, List.length_cons, List.length_nil]; omega
theorem numOK_itoa {n : Int} (h : 0 ≤ n ∧ n ≤ 99999) : numOK (Lib.itoa n) = true := by
  unfold numOK
  rw [numV_itoa h.1]
  have h1 : Lib.itoa n ≠ [] := by have := itoa_ne n; intro e; rw [e] at this; simp at this
  have h2 : (Lib.itoa n).length ≤ 5 := by
    unfold Lib.itoa; rw [if_neg (by omega)]
    exact dec_len 5 _ (by decide) (by show n.toNat < 100000; omega)
  have h3 : (Lib.itoa n).all isDig = true := by rw [List.all_eq_true]; exact itoa_dig h.1
  simp [h1, h2, h3]
end Go.Av
end

section
namespace Go.Av
open Go.Proofs
def rowW (l : List Int) : List UInt8 := Lib.join (l.map Lib.itoa) [32]
def headW (wide : Int) (n : Nat) : List UInt8 := Lib.join [wChart, Lib.itoa wide, Lib.itoa (n : Int)] [32]
def endW (wide : Int) (vs : List (List Int)) : List UInt8 := Lib.join [wEnd, chkW (chkN wide vs)] [32]
def linesW (wide : Int) (vs : List (List Int)) : List (List UInt8) := headW wide vs.length :: (vs.map rowW ++ [endW wide vs, []])
theorem join_lines : ∀ (ls : List (List UInt8)), Lib.join (ls ++ [[]]) [10] = (ls.map (· ++ [10])).flatten
  | [] => by simp [Lib.join_one]
  | [l] => by simp [join_cons2, Lib.join_one]
  | l :: m :: r => by
    have := join_lines (m :: r)
    simp only [List.cons_append] at this ⊢
    rw [join_cons2, this]; simp
theorem text_lines (wide : Int) (vs : List (List Int)) : textL wide vs = Lib.join (linesW wide vs) [10] := by
  have e : linesW wide vs = (headW wide vs.length :: (vs.map rowW ++ [endW wide vs])) ++ [[]] := by simp [linesW]
  rw [e, join_lines]
  simp only [textL, headL, lineL, rowsL, headW, endW, List.map_cons, List.flatten_cons, List.map_append, List.flatten_append, List.map_map, List.map_nil, List.flatten_nil, List.append_nil, List.append_assoc]
  rfl
theorem dig_ne {c : UInt8} (hc : c.toNat < 48 ∨ 57 < c.toNat) {n : Int} (h : 0 ≤ n) : ∀ x ∈ Lib.itoa n, x ≠ c := fun x hx e => by
  have := itoa_mem h x hx
  rw [e] at this; omega
theorem join_no {c : UInt8} (hc : c ≠ 32) : ∀ {ws : List (List UInt8)}, (∀ w ∈ ws, ∀ x ∈ w, x ≠ c) → ∀ x ∈ Lib.join ws [32], x ≠ c
  | [], _, x, hx => by simp [Lib.join_nil] at hx
  | [w], h, x, hx => by rw [Lib.join_one] at hx; exact h w (List.mem_cons_self ..) x hx
  | w :: v :: r, h, x, hx => by
    rw [join_cons2] at hx
    rcases List.mem_append.1 hx with hx | hx
    · exact h w (List.mem_cons_self ..) x hx
    · rcases List.mem_cons.1 hx with rfl | hx
      · exact Ne.symm hc
      · exact join_no hc (fun u hu => h u (List.mem_cons_of_mem _ hu)) x hx
theorem chk_no {c : UInt8} (hc : c.toNat < 48 ∨ 57 < c.toNat) (wide : Int) (vs : List (List Int)) : ∀ x ∈ chkW (chkN wide vs), x ≠ c := fun x hx => by
  unfold chkW chkN at hx
  rcases List.mem_append.1 hx with hx | hx
  · exact dig_ne hc (by omega) x hx
  · exact dig_ne hc (by omega) x hx
theorem row_no {c : UInt8} (hc : c.toNat < 48 ∨ 57 < c.toNat) {l : List Int} (h : ∀ n ∈ l, 0 ≤ n ∧ n ≤ 99999) : ∀ w ∈ l.map Lib.itoa, ∀ x ∈ w, x ≠ c := fun w hw => by
  obtain ⟨n, hn, rfl⟩ := List.mem_map.1 hw
  exact dig_ne hc (h n hn).1
theorem lines_no {wide : Int} {vs : List (List Int)} (hw : 0 ≤ wide) (hv : ∀ l ∈ vs, ∀ n ∈ l, 0 ≤ n ∧ n ≤ 99999) : ∀ l ∈ linesW wide vs, ∀ x ∈ l, x ≠ 10 := fun l hl => by
  simp only [linesW, List.mem_cons, List.mem_append, List.mem_map, List.not_mem_nil, or_false] at hl
  rcases hl with rfl | ⟨r, hr, rfl⟩ | rfl | rfl
  · refine join_no (by decide) fun w hw2 => ?_
    simp only [List.mem_cons, List.not_mem_nil, or_false] at hw2
    rcases hw2 with rfl | rfl | rfl
    · decide
    · exact dig_ne (by decide) hw
    · exact dig_ne (by decide) (by omega)
  · exact join_no (by decide) (row_no (by decide) (hv r hr))
  · refine join_no (by decide) fun w hw2 => ?_
    simp only [List.mem_cons, List.not_mem_nil, or_false] at hw2
    rcases hw2 with rfl | rfl
    · decide
    · exact chk_no (by decide) wide vs
  · simp
theorem text_split {wide : Int} {vs : List (List Int)} (hw : 0 ≤ wide) (hv : ∀ l ∈ vs, ∀ n ∈ l, 0 ≤ n ∧ n ≤ 99999) : linesOf (textL wide vs) = linesW wide vs := by
  unfold linesOf; rw [text_lines]; exact splitL_join (by simp [linesW]) (lines_no hw hv)
theorem head_split {wide : Int} (n : Nat) (hw : 0 ≤ wide) : splitL 32 (headW wide n) = [wChart, Lib.itoa wide, Lib.itoa (n : Int)] := by
  refine splitL_join (by simp) fun w hw2 => ?_
  simp only [List.mem_cons, List.not_mem_nil, or_false] at hw2
  rcases hw2 with rfl | rfl | rfl
  · decide
  · exact dig_ne (by decide) hw
  · exact dig_ne (by decide) (by omega)
theorem row_split {l : List Int} (h0 : l ≠ []) (h : ∀ n ∈ l, 0 ≤ n ∧ n ≤ 99999) : splitL 32 (rowW l) = l.map Lib.itoa := splitL_join (by simpa using h0) (row_no (by decide) h)
/-- What is printed is read, as what it was. -/
theorem read_text {wide : Int} {vs : List (List Int)} (hw : 1 ≤ wide ∧ wide ≤ 99999) (hn : vs.length ≤ 99999) (hv : ∀ l ∈ vs, (l.length : Int) = wide ∧ ∀ n ∈ l, 0 ≤ n ∧ n ≤ 99999) : readP (textL wide vs) = some ⟨wide, vs.flatten⟩ := by
  have hl := text_split (wide := wide) (vs := vs) (by omega) (fun l h => (hv l h).2)
  have hh : headOf (textL wide vs) = [wChart, Lib.itoa wide, Lib.itoa (vs.length : Int)] := by
    unfold headOf; rw [hl]; exact head_split vs.length (by omega)
  have e1 : wideOf (textL wide vs) = wide := by unfold wideOf; rw [hh]; exact numV_itoa (n := wide) (by omega)
  have e2 : manyOf (textL wide vs) = (vs.length : Int) := by unfold manyOf; rw [hh]; exact numV_itoa (n := (vs.length : Int)) (by omega)
  have e3 : rowsS (textL wide vs) = vs.map rowW := by
    unfold rowsS
    rw [hl, e2]
    simp only [linesW]
    rw [show ((vs.length : Int) + 1).toNat = vs.length + 1 by omega, List.take_succ_cons, List.drop_succ_cons, List.drop_zero, List.take_append_of_le_length (by simp), List.take_of_length_le (by simp)]
  have e4 : ∀ l ∈ vs, rowV wide (rowW l) = l := fun l h => by
    have h1 := hv l h
    unfold rowV
    rw [if_pos (by omega), row_split (by intro e; rw [e] at h1; simp at h1; omega) h1.2, List.map_map]
    exact (List.map_congr_left fun n hn => numV_itoa (h1.2 n hn).1).trans (List.map_id _)
  have e5 : valsOf (textL wide vs) = vs := by
    unfold valsOf
    rw [e3, e1, List.map_map]
    exact (List.map_congr_left fun l h => e4 l h).trans (List.map_id _)
  have e6 : (vs.map rowW).all (rowOK wide) = true := by
    rw [List.all_eq_true]
    intro w hw2
    obtain ⟨l, h, rfl⟩ := List.mem_map.1 hw2
    have h1 := hv l h
    unfold rowOK
    rw [e4 l h, row_split (by intro e; rw [e] at h1; simp at h1; omega) h1.2, h1.1]
    simp only [beq_self_eq_true, Bool.and_true, Bool.or_eq_true]
    refine .inr ?_
    rw [List.all_eq_true]
    intro w hw3
    obtain ⟨n, hn, rfl⟩ := List.mem_map.1 hw3
    exact numOK_itoa (h1.2 n hn)
  have e7 : readOK (textL wide vs) = true := by
    unfold readOK headOK
    rw [hh, e1, e2, e3, e5, e6, hl]
    simp only [List.getD_cons_succ, List.getD_cons_zero, numOK_itoa (n := wide) (by omega), numOK_itoa (n := (vs.length : Int)) (by omega), beq_self_eq_true, Bool.and_true, linesW]
    simp; omega
  unfold readP fldOfS
  rw [e7, e1, e5]; rfl
end Go.Av
end

section
namespace Go.Av
open Go.Proofs
theorem toNat_mul {k : Nat} {w : Int} (h : 0 ≤ w) : ((k : Int) * w).toNat = k * w.toNat := by
  obtain ⟨n, rfl⟩ := Int.eq_ofNat_of_zero_le h
  rw [← Int.natCast_mul, Int.toNat_natCast, Int.toNat_natCast]
theorem toNat_mul1 {k : Nat} {w : Int} (h : 0 ≤ w) : (((k : Int) + 1) * w).toNat = (k + 1) * w.toNat := by
  have := toNat_mul (k := k + 1) h
  rw [← this]; rfl
theorem chunk_eq {f : Fld} {k : Nat} (hw : 0 ≤ f.wide) (h : (k + 1) * f.wide.toNat ≤ f.vals.length) : chunkI f k = (List.range f.wide.toNat).map fun j => f.vals.getD (k * f.wide.toNat + j) 0 := by
  unfold chunkI
  rw [toNat_mul hw, toNat_mul1 hw]
  rw [Nat.add_mul, Nat.one_mul] at h ⊢
  apply List.ext_getElem?
  intro i
  rw [List.getElem?_drop, List.getElem?_take, List.getElem?_map]
  by_cases hi : i < f.wide.toNat
  · rw [if_pos (by omega), List.getElem?_range hi, List.getElem?_eq_getElem (show k * f.wide.toNat + i < f.vals.length by omega)]
    simp only [Option.map_some]
    rw [getD_at]
  · rw [if_neg (by omega), List.getElem?_eq_none (by simp; omega)]; rfl
theorem join_snoc (w : List UInt8) : ∀ (ws : List (List UInt8)), ws ≠ [] → Lib.join (ws ++ [w]) [32] = Lib.join ws [32] ++ 32 :: w
  | [], h => absurd rfl h
  | [v], _ => by simp [join_cons2, Lib.join_one]
  | v :: u :: r, _ => by
    have := join_snoc w (u :: r) (by simp)
    simp only [List.cons_append] at this ⊢
    rw [join_cons2, join_cons2, this]; simp
theorem mod_in {k j W : Nat} {w : Int} (hw : w = (W : Int)) (h : j < W) : ((k * W + j : Nat) : Int) % w = (j : Int) ∧ ((k * W + j : Nat) : Int) / w = (k : Int) := by
  subst hw
  have e : k * W + j = j + W * k := by rw [Nat.mul_comm]; omega
  have hpos : 0 < W := by omega
  rw [e, ← Int.natCast_emod, ← Int.natCast_ediv, Nat.add_mul_mod_self_left, Nat.mod_eq_of_lt h, Nat.add_mul_div_left _ _ hpos, Nat.div_eq_of_lt h]
  simp
def gRow (f : Fld) (W k j : Nat) : List Int := (List.range j).map fun i => f.vals.getD (k * W + i) 0
theorem gRow_snoc (f : Fld) (W k j : Nat) : gRow f W k (j + 1) = gRow f W k j ++ [f.vals.getD (k * W + j) 0] := by
  unfold gRow; rw [List.range_succ, List.map_append]; rfl
theorem body_in {f : Fld} {W k : Nat} (hw : f.wide = (W : Int)) : ∀ (j : Nat), j + 1 ≤ W → bodyK f (k * W + (j + 1)) = bodyK f (k * W) ++ 10 :: rowW (gRow f W k (j + 1))
  | 0, h => by
    rw [Nat.zero_add, body_snoc]
    have := (mod_in (k := k) hw (show 0 < W by omega)).1
    have hs : sepR f (k * W) = [10] := by unfold sepR; rw [if_pos (by rw [Nat.add_zero] at this; rw [this]; rfl)]
    rw [hs]; simp [gRow, rowW, Lib.join_one]
  | j + 1, h => by
    rw [← Nat.add_assoc, body_snoc, body_in hw j (by omega)]
    have := (mod_in (k := k) hw (show j + 1 < W by omega)).1
    have hs : sepR f (k * W + (j + 1)) = [32] := by unfold sepR; rw [if_neg (by rw [this]; simp; omega)]
    rw [hs, gRow_snoc f W k (j + 1)]
    unfold rowW
    rw [List.map_append, List.map_cons, List.map_nil, join_snoc _ _ (by simp [gRow])]
    simp
theorem sum_in {f : Fld} {W k : Nat} (hw : f.wide = (W : Int)) : ∀ (j : Nat), j ≤ W → sumK f (k * W + j) = sumK f (k * W) + (gRow f W k j).sum * ((k : Int) + 1)
  | 0, _ => by simp [gRow]
  | j + 1, h => by
    rw [← Nat.add_assoc, sumK_snoc, sum_in hw j (by omega), gRow_snoc, (mod_in (k := k) hw (show j < W by omega)).2, List.sum_append, Int.add_mul, Int.add_assoc]
    simp
theorem body_rows {f : Fld} {W : Nat} (hw : f.wide = (W : Int)) (h1 : 1 ≤ W) : ∀ (k : Nat), bodyK f (k * W) = ((List.range k).map fun i => 10 :: rowW (gRow f W i W)).flatten
  | 0 => by simp [bodyK]
  | k + 1 => by
    have := body_in (k := k) hw (W - 1) (by omega)
    rw [show W - 1 + 1 = W by omega] at this
    rw [Nat.add_mul, Nat.one_mul, this, body_rows hw h1 k, List.range_succ, List.map_append, List.flatten_append]; simp
theorem sum_rows {f : Fld} {W : Nat} (hw : f.wide = (W : Int)) : ∀ (k : Nat), sumK f (k * W) = wsum 0 ((List.range k).map fun i => gRow f W i W)
  | 0 => by simp [sumK, wsum]
  | k + 1 => by
    rw [Nat.add_mul, Nat.one_mul, sum_in (k := k) hw W (Nat.le_refl _), sum_rows hw k, List.range_succ, List.map_append, wsum_app]
    simp [wsum]
theorem flat_lines (h : List UInt8) : ∀ (ls : List (List UInt8)), h ++ (ls.map fun l => 10 :: l).flatten ++ [10] = h ++ [10] ++ (ls.map (· ++ [10])).flatten
  | [] => by simp
  | l :: ls => by
    have := flat_lines (10 :: l) ls
    simp only [List.map_cons, List.flatten_cons] at this ⊢
    have e : h ++ (10 :: l ++ (ls.map fun l => 10 :: l).flatten) ++ [10] = h ++ ((10 :: l) ++ (ls.map fun l => 10 :: l).flatten ++ [10]) := by simp
    rw [e, this]; simp
theorem fld_parts {f : Fld} (hf : fieldB f = true) : ∃ W R : Nat, f.wide = (W : Int) ∧ 1 ≤ W ∧ W ≤ 6 ∧ 1 ≤ R ∧ R ≤ 5 ∧ f.vals.length = R * W ∧ rowsOf f = (R : Int) ∧ chunks f = (List.range R).map (fun i => gRow f W i W) := by
  unfold fieldB at hf
  simp only [Bool.and_eq_true] at hf
  obtain ⟨h1, h2, h3, h4, h5⟩ := shape_len hf.1
  have hW : f.wide = (f.wide.toNat : Int) := by omega
  have hR : rowsOf f = ((rowsOf f).toNat : Int) := by omega
  have hl : f.vals.length = (rowsOf f).toNat * f.wide.toNat := by
    have : (f.vals.length : Int) = (((rowsOf f).toNat * f.wide.toNat : Nat) : Int) := by rw [Int.natCast_mul, ← hW, ← hR, h5, Int.mul_comm]
    omega
  refine ⟨f.wide.toNat, (rowsOf f).toNat, hW, by omega, by omega, by omega, by omega, hl, hR, ?_⟩
  unfold chunks
  refine List.map_congr_left fun i hi => ?_
  have hi := List.mem_range.1 hi
  exact chunk_eq (by omega) (by rw [hl]; exact Nat.mul_le_mul_right _ (by omega))
theorem printR_eq {f : Fld} (hf : fieldB f = true) : printR f = printL f := by
  obtain ⟨W, R, hw, h1, _, hr, _, hl, hR, hc⟩ := fld_parts hf
  have hd : (f.vals.length : Int) / f.wide = (R : Int) := by
    rw [hl, hw, Int.natCast_mul, Int.mul_ediv_cancel _ (by omega)]
  have hlen : (chunks f).length = R := by rw [hc]; simp
  unfold printR printL textL
  rw [hl, body_rows hw h1, sum_rows hw, ← hc]
  have eb : ((List.range R).map fun i => 10 :: rowW (gRow f W i W)) = (((chunks f).map rowW).map fun l => 10 :: l) := by rw [hc, List.map_map, List.map_map]; rfl
  rw [eb]
  have eh : headR f = headW f.wide (chunks f).length := by
    unfold headR headW
    rw [hd, hlen]
    simp [join_cons2, Lib.join_one, wChart]
  have e2 : headL f.wide (chunks f) = headW f.wide (chunks f).length ++ [10] := rfl
  have e3 : rowsL (chunks f) = (((chunks f).map rowW).map (· ++ [10])).flatten := by rw [List.map_map]; rfl
  have e4 : lineL [wEnd, chkW (chkN f.wide (chunks f))] = [101, 110, 100, 32] ++ Lib.itoa ((f.wide + wsum 0 (chunks f)) % 97 / 10) ++ Lib.itoa ((f.wide + wsum 0 (chunks f)) % 97 % 10) ++ [10] := by
    simp [lineL, join_cons2, Lib.join_one, wEnd, chkW, chkN]
  rw [e2, e3, e4, ← flat_lines, eh]
  simp
theorem chunks_flat {f : Fld} (hf : fieldB f = true) : (chunks f).flatten = f.vals := by
  obtain ⟨W, R, hw, h1, _, hr, _, hl, hR, hc⟩ := fld_parts hf
  rw [hc]
  have key : ∀ k, k ≤ R → ((List.range k).map fun i => gRow f W i W).flatten = f.vals.take (k * W) := by
    intro k
    induction k with
    | zero => intro _; simp
    | succ k ih =>
      intro hk
      have hle : (k + 1) * W ≤ f.vals.length := by rw [hl]; exact Nat.mul_le_mul_right _ hk
      rw [List.range_succ, List.map_append, List.flatten_append, ih (by omega)]
      rw [Nat.add_mul, Nat.one_mul] at hle ⊢
      simp only [List.map_cons, List.map_nil, List.flatten_cons, List.flatten_nil, List.append_nil]
      rw [← List.take_append_drop (k * W) (f.vals.take (k * W + W)), List.take_take, Nat.min_eq_left (by omega)]
      congr 1
      apply List.ext_getElem?
      intro i
      unfold gRow
      rw [List.getElem?_map, List.getElem?_drop, List.getElem?_take]
      by_cases hi : i < W
      · rw [if_pos (by omega), List.getElem?_range hi, List.getElem?_eq_getElem (show k * W + i < f.vals.length by omega), Option.map_some, getD_at]
      · rw [if_neg (by omega), List.getElem?_eq_none (by simp; omega)]; rfl
  rw [key R (Nat.le_refl _), ← hl, List.take_length]
theorem read_print {f : Fld} (hf : fieldB f = true) : readP (printL f) = some f := by
  obtain ⟨W, R, hw, h1, h6, hr, h5, hl, hR, hc⟩ := fld_parts hf
  obtain ⟨b1, b2, b3⟩ := fld_bd hf
  have := read_text (wide := f.wide) (vs := chunks f) (by omega) (by rw [hc]; simp; omega) (fun l h => by
    have hh := h
    rw [hc] at hh
    obtain ⟨i, _, e⟩ := List.mem_map.1 hh
    refine ⟨by rw [← e, hw]; simp [gRow], fun n hn => b3 n ?_⟩
    rw [← chunks_flat hf]
    exact List.mem_flatten.2 ⟨l, h, hn⟩)
  unfold printL
  rw [this, chunks_flat hf]
end Go.Av
end

section
namespace Go.Av
open Go.Proofs
set_option maxRecDepth 100000
set_option maxHeartbeats 1000000
set_option linter.unusedSimpArgs false
variable {G : Glob}

theorem itoa5 {n : Int} (h : 0 ≤ n ∧ n ≤ 99999) : (Lib.itoa n).length ≤ 5 := by
  unfold Lib.itoa; rw [if_neg (by omega)]
  exact dec_len 5 _ (by decide) (by show n.toNat < 100000; omega)
theorem body5 {f : Fld} (hv : ∀ n ∈ f.vals, 0 ≤ n ∧ n ≤ 99999) : ∀ (k : Nat), k ≤ f.vals.length → (bodyK f k).length ≤ 6 * k
  | 0, _ => by simp [bodyK]
  | k + 1, h => by
    have h1 := body5 hv k (by omega)
    have h2 := itoa5 (hv _ (List.getElem_mem (show k < f.vals.length by omega)))
    rw [← getD_at (show k < f.vals.length by omega)] at h2
    have h3 : (sepR f k).length = 1 := by unfold sepR; split <;> rfl
    rw [body_snoc]; simp only [List.length_append]; omega
theorem print_len {f : Fld} (hf : fieldB f = true) : (printL f).length ≤ 400 := by
  obtain ⟨W, R, hw, h1, h6, hr, h5, hl, hR, hc⟩ := fld_parts hf
  obtain ⟨b1, b2, b3⟩ := fld_bd hf
  have hl30 : f.vals.length ≤ 30 := by rw [hl]; exact Nat.le_trans (Nat.mul_le_mul h5 h6) (by decide)
  rw [← printR_eq hf]
  have hb := body5 b3 f.vals.length (Nat.le_refl _)
  have hq0 : 0 ≤ (f.vals.length : Int) / f.wide := Int.ediv_nonneg (by omega) (by omega)
  have hq1 : (f.vals.length : Int) / f.wide ≤ f.vals.length := Int.ediv_le_self _ (by omega)
  have i1 := itoa5 (n := f.wide) (by omega)
  have i2 := itoa5 (n := (f.vals.length : Int) / f.wide) (by omega)
  have i3 := itoa5 (n := (f.wide + sumK f f.vals.length) % 97 / 10) (by omega)
  have i4 := itoa5 (n := (f.wide + sumK f f.vals.length) % 97 % 10) (by omega)
  unfold printR headR
  simp only [List.length_append, List.length_cons, List.length_nil]; omega
theorem fieldB_iff {f : Fld} : fieldB f = true ↔ shapeB f = true ∧ valsB f = true := by unfold fieldB; simp
theorem same_self (f : Fld) : sameF f f = true := by simp [sameF]

end Go.Av
end
