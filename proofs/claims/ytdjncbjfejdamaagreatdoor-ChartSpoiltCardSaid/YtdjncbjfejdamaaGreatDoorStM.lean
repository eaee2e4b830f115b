/- A text of which one digit is changed is not read. -/
import Derived.Test.YtdjncbjfejdamaaGreatDoorStD
set_option linter.unusedVariables false
set_option linter.unusedSimpArgs false
section
namespace Go.Av
open Go.Proofs
theorem split_mid (c : UInt8) (b : List UInt8) : ∀ (a : List UInt8), ∃ P p q Q, ∀ z : UInt8, z ≠ c → splitL c (a ++ z :: b) = P ++ (p ++ z :: q) :: Q
  | [] => by
    cases hs : splitL c b with
    | nil => exact absurd hs (splitL_ne c b)
    | cons h t =>
      refine ⟨[], [], h, t, fun z hz => ?_⟩
      show splitL c (z :: b) = _
      rw [splitL, if_neg hz, hs]; rfl
  | y :: a => by
    obtain ⟨P, p, q, Q, h⟩ := split_mid c b a
    by_cases hy : y = c
    · refine ⟨[] :: P, p, q, Q, fun z hz => ?_⟩
      show splitL c (y :: (a ++ z :: b)) = _
      rw [splitL, if_pos hy, h z hz]; rfl
    · cases P with
      | nil =>
        refine ⟨[], y :: p, q, Q, fun z hz => ?_⟩
        show splitL c (y :: (a ++ z :: b)) = _
        rw [splitL, if_neg hy, h z hz]; rfl
      | cons u P =>
        refine ⟨(y :: u) :: P, p, q, Q, fun z hz => ?_⟩
        show splitL c (y :: (a ++ z :: b)) = _
        rw [splitL, if_neg hy, h z hz]; rfl
theorem fold_num : ∀ (q : List UInt8) (n : Int), q.foldl (fun n c => 10 * n + ((c.toNat : Int) - 48)) n = n * 10 ^ q.length + numV q
  | [], n => by simp [numV]
  | c :: q, n => by
    unfold numV
    rw [List.foldl_cons, List.foldl_cons, fold_num q, fold_num q (10 * 0 + _), List.length_cons, Int.pow_succ, Int.add_mul, Int.add_mul]
    have e : 10 * n * 10 ^ q.length = n * (10 ^ q.length * 10) := by
      rw [Int.mul_comm 10 n, Int.mul_assoc, Int.mul_comm 10 (10 ^ q.length)]
    omega
theorem num_mid (p q : List UInt8) (z : UInt8) : numV (p ++ z :: q) = (10 * numV p + ((z.toNat : Int) - 48)) * 10 ^ q.length + numV q := by
  conv => lhs; unfold numV
  rw [List.foldl_append, List.foldl_cons, fold_num]; rfl
theorem num_diff (p q : List UInt8) (x y : UInt8) : numV (p ++ x :: q) - numV (p ++ y :: q) = ((x.toNat : Int) - y.toNat) * 10 ^ q.length := by
  rw [num_mid, num_mid]
  have e1 : (10 * numV p + ((x.toNat : Int) - 48)) * 10 ^ q.length = (10 * numV p - 48) * 10 ^ q.length + x.toNat * 10 ^ q.length := by rw [← Int.add_mul]; congr 1; omega
  have e2 : (10 * numV p + ((y.toNat : Int) - 48)) * 10 ^ q.length = (10 * numV p - 48) * 10 ^ q.length + y.toNat * 10 ^ q.length := by rw [← Int.add_mul]; congr 1; omega
  have e3 : ((x.toNat : Int) - y.toNat) * 10 ^ q.length = x.toNat * 10 ^ q.length - y.toNat * 10 ^ q.length := Int.sub_mul _ _ _
  rw [e1, e2, e3]; omega
/-- What is read has the lines that are printed. -/
theorem lines_ok {s : List UInt8} (h : readOK s = true) : linesOf s = linesW (wideOf s) (valsOf s) ∧ (0 ≤ wideOf s ∧ wideOf s ≤ 99999) ∧ (∀ l ∈ valsOf s, (l.length : Int) = wideOf s ∧ ∀ n ∈ l, 0 ≤ n ∧ n ≤ 99999) := by
  unfold readOK at h
  simp only [Bool.and_eq_true, beq_iff_eq, List.all_eq_true] at h
  obtain ⟨⟨⟨⟨⟨h1, h2⟩, h3⟩, h4⟩, h5⟩, h6⟩ := h
  have hw : 0 ≤ wideOf s ∧ wideOf s ≤ 99999 := numOK_bd h2
  have hv : ∀ l ∈ valsOf s, (l.length : Int) = wideOf s ∧ ∀ n ∈ l, 0 ≤ n ∧ n ≤ 99999 := fun l hl => by
    unfold valsOf at hl
    obtain ⟨r, hr, rfl⟩ := List.mem_map.1 hl
    have h7 := h5 r hr
    refine ⟨?_, rowV_ok h7⟩
    unfold rowOK at h7
    simp only [Bool.and_eq_true, beq_iff_eq] at h7
    exact h7.2
  refine ⟨?_, hw, hv⟩
  have := text_split hw.1 (fun l hl => (hv l hl).2)
  rw [h6] at this; exact this
theorem itoa_inj {m n : Int} (hm : 0 ≤ m) (hn : 0 ≤ n) (h : Lib.itoa m = Lib.itoa n) : m = n := by rw [← numV_itoa hm, h, numV_itoa hn]
theorem row_inj {l l' : List Int} (h0 : l ≠ []) (h0' : l' ≠ []) (h : ∀ n ∈ l, 0 ≤ n ∧ n ≤ 99999) (h' : ∀ n ∈ l', 0 ≤ n ∧ n ≤ 99999) (e : rowW l = rowW l') : l = l' := by
  have e1 : l.map Lib.itoa = l'.map Lib.itoa := by rw [← row_split h0 h, e, row_split h0' h']
  have e2 : ∀ (r : List Int), (∀ n ∈ r, 0 ≤ n ∧ n ≤ 99999) → (r.map Lib.itoa).map numV = r := fun r hr => by
    rw [List.map_map]
    exact (List.map_congr_left fun n hn => numV_itoa (hr n hn).1).trans (List.map_id _)
  rw [← e2 l h, e1, e2 l' h']
theorem rows_inj : ∀ {vs us : List (List Int)}, (∀ l ∈ vs, l ≠ [] ∧ ∀ n ∈ l, 0 ≤ n ∧ n ≤ 99999) → (∀ l ∈ us, l ≠ [] ∧ ∀ n ∈ l, 0 ≤ n ∧ n ≤ 99999) → vs.map rowW = us.map rowW → vs = us
  | [], [], _, _, _ => rfl
  | [], _ :: _, _, _, h => by simp at h
  | _ :: _, [], _, _, h => by simp at h
  | v :: vs, u :: us, hv, hu, h => by
    simp only [List.map_cons, List.cons.injEq] at h
    have h1 := hv v (List.mem_cons_self ..)
    have h2 := hu u (List.mem_cons_self ..)
    rw [row_inj h1.1 h2.1 h1.2 h2.2 h.1, rows_inj (fun l hl => hv l (List.mem_cons_of_mem _ hl)) (fun l hl => hu l (List.mem_cons_of_mem _ hl)) h.2]
theorem chk_num {c : Int} (h : 0 ≤ c) (h2 : c < 97) : numV (chkW c) = c := by
  have e : Lib.itoa (c % 10) = [UInt8.ofNat (48 + (c % 10).toNat)] := by
    unfold Lib.itoa
    rw [if_neg (by omega), Lib.decDigits, dif_pos (by omega)]
  unfold chkW
  rw [e, numV_snoc, numV_itoa (by omega), UInt8.toNat_ofNat']
  omega
theorem chk_inj {c d : Int} (h : 0 ≤ c ∧ c < 97) (h2 : 0 ≤ d ∧ d < 97) (e : chkW c = chkW d) : c = d := by rw [← chk_num h.1 h.2, e, chk_num h2.1 h2.2]
theorem not97 {d : Int} {k i : Nat} (h0 : d ≠ 0) (h1 : -9 ≤ d) (h2 : d ≤ 9) (hk : k ≤ 4) (hi : i ≤ 4) : (d * 10 ^ k * ((i : Int) + 1)) % 97 ≠ 0 := by
  have hk : k = 0 ∨ k = 1 ∨ k = 2 ∨ k = 3 ∨ k = 4 := by omega
  have hi : i = 0 ∨ i = 1 ∨ i = 2 ∨ i = 3 ∨ i = 4 := by omega
  rcases hk with rfl | rfl | rfl | rfl | rfl <;> rcases hi with rfl | rfl | rfl | rfl | rfl <;> simp only [Int.reducePow, Int.mul_one] <;> omega
theorem app_mid {α : Type} {P Q R S : List α} {a b : α} (hl : P.length < R.length) (h : P ++ a :: Q = R ++ S) : ∃ R2, R = P ++ a :: R2 ∧ Q = R2 ++ S := by
  rcases List.append_eq_append_iff.1 h with ⟨T, h1, h2⟩ | ⟨T, h1, h2⟩
  · cases T with
    | nil => rw [h1] at hl; simp at hl
    | cons t T =>
      simp only [List.cons_append, List.cons.injEq] at h2
      obtain ⟨rfl, h2⟩ := h2
      exact ⟨T, h1, h2⟩
  · have := congrArg List.length h1
    simp at this; omega
theorem itoa_word {n : Int} (h : 0 ≤ n ∧ n ≤ 99999) : (Lib.itoa n).length ≤ 5 := by
  unfold Lib.itoa; rw [if_neg (by omega)]
  exact dec_len 5 _ (by decide) (by show n.toNat < 100000; omega)
/-- A row's line of which one digit differs: how the sums differ. -/
theorem row_diff {l l' : List Int} {p q : List UInt8} {x y : UInt8} (hx : isDig x = true) (hy : isDig y = true) (h0 : l ≠ []) (h0' : l' ≠ []) (h : ∀ n ∈ l, 0 ≤ n ∧ n ≤ 99999) (h' : ∀ n ∈ l', 0 ≤ n ∧ n ≤ 99999)
    (e : rowW l = p ++ x :: q) (e' : rowW l' = p ++ y :: q) : ∃ k : Nat, k ≤ 4 ∧ l.sum - l'.sum = ((x.toNat : Int) - y.toNat) * 10 ^ k := by
  have dne : ∀ z : UInt8, isDig z = true → z ≠ 32 := fun z hz hc => by subst hc; revert hz; decide
  obtain ⟨P, p2, q2, Q, hsp⟩ := split_mid 32 q p
  have e1 : l.map Lib.itoa = P ++ (p2 ++ x :: q2) :: Q := by rw [← row_split h0 h, e, hsp x (dne x hx)]
  have e2 : l'.map Lib.itoa = P ++ (p2 ++ y :: q2) :: Q := by rw [← row_split h0' h', e', hsp y (dne y hy)]
  have hm : ∀ (r : List Int), (∀ n ∈ r, 0 ≤ n ∧ n ≤ 99999) → (r.map Lib.itoa).map numV = r := fun r hr => by
    rw [List.map_map]
    exact (List.map_congr_left fun n hn => numV_itoa (hr n hn).1).trans (List.map_id _)
  refine ⟨q2.length, ?_, ?_⟩
  · have : p2 ++ x :: q2 ∈ l.map Lib.itoa := by rw [e1]; simp
    obtain ⟨n, hn, hw⟩ := List.mem_map.1 this
    have := itoa_word (h n hn)
    rw [hw] at this; simp at this; omega
  · have s1 : l.sum = (P.map numV).sum + (numV (p2 ++ x :: q2) + (Q.map numV).sum) := by
      have e : l.sum = ((l.map Lib.itoa).map numV).sum := by rw [hm l h]
      rw [e, e1, List.map_append, List.sum_append, List.map_cons, List.sum_cons]
    have s2 : l'.sum = (P.map numV).sum + (numV (p2 ++ y :: q2) + (Q.map numV).sum) := by
      have e : l'.sum = ((l'.map Lib.itoa).map numV).sum := by rw [hm l' h']
      rw [e, e2, List.map_append, List.sum_append, List.map_cons, List.sum_cons]
    rw [s1, s2, ← num_diff p2 q2 x y]; omega
theorem spoilt {f : Fld} (hf : fieldB f = true) {a b : List UInt8} {x y : UInt8} (hx : isDig x = true) (hy : isDig y = true) (hxy : x ≠ y) (hs : printL f = a ++ x :: b) : readP (a ++ y :: b) = none := by
  refine readP_no (Bool.eq_false_iff.2 fun hok' => ?_)
  have hok := (read_ok (read_print hf)).1
  have hfs := (read_ok (read_print hf)).2
  obtain ⟨W, R, hwW, hW1, _, hR1, hR5, hl, _, hc⟩ := fld_parts hf
  have dne : ∀ z : UInt8, isDig z = true → z ≠ 10 := fun z hz hc => by subst hc; revert hz; decide
  obtain ⟨P, p, q, Q, hsp⟩ := split_mid 10 b a
  have hvW : ∀ l ∈ chunks f, (l.length : Int) = f.wide ∧ ∀ n ∈ l, 0 ≤ n ∧ n ≤ 99999 := fun l hl => by
    rw [hc] at hl
    obtain ⟨i, hi, rfl⟩ := List.mem_map.1 hl
    refine ⟨by simp [gRow, hwW], fun n hn => ?_⟩
    simp only [gRow, List.mem_map, List.mem_range] at hn
    obtain ⟨j, hj, rfl⟩ := hn
    have hi := List.mem_range.1 hi
    have : i * W + j < f.vals.length := by
      rw [‹f.vals.length = R * W›]
      have := Nat.mul_le_mul_right W (show i + 1 ≤ R by omega)
      rw [Nat.add_mul] at this; omega
    rw [getD_at this]
    exact (fld_bd hf).2.2 _ (List.getElem_mem _)
  have hn : (chunks f).length = R := by rw [hc]; simp
  have L1 : linesOf (printL f) = linesW f.wide (chunks f) := text_split (by omega) fun l hl => (hvW l hl).2
  obtain ⟨L2, hw', hv'⟩ := lines_ok hok'
  rw [hs] at L1
  unfold linesOf at L1 L2
  rw [hsp x (dne x hx)] at L1
  rw [hsp y (dne y hy)] at L2
  generalize wideOf (a ++ y :: b) = w' at *
  generalize valsOf (a ++ y :: b) = us at *
  have hlen : us.length = R := by
    have h1 := congrArg List.length L1
    have h2 := congrArg List.length L2
    simp only [linesW, List.length_append, List.length_cons, List.length_map, List.length_nil] at h1 h2
    omega
  cases P with
  | nil =>
    simp only [List.nil_append, linesW, List.cons.injEq] at L1 L2
    have ht := L1.2.symm.trans L2.2
    have hr : (chunks f).map rowW = us.map rowW := (List.append_inj ht (by simp [hn, hlen])).1
    have hww : f.wide = w' := by
      cases hcf : chunks f with
      | nil => rw [hcf] at hn; simp at hn; omega
      | cons l ls =>
        cases hus : us with
        | nil => rw [hus] at hlen; simp at hlen; omega
        | cons l' ls' =>
          have k1 := hvW l (by rw [hcf]; simp)
          have k2 := hv' l' (by rw [hus]; simp)
          rw [hcf, hus] at hr
          simp only [List.map_cons, List.cons.injEq] at hr
          have hne : l ≠ [] := by intro e; rw [e] at k1; simp at k1; omega
          by_cases hz : l' = []
          · exfalso
            have := row_split hne k1.2
            rw [hr.1, hz] at this
            cases l with
            | nil => exact hne rfl
            | cons n ns =>
              simp [rowW, Lib.join_nil, splitL] at this
              have h9 := itoa_ne n
              rw [this.1] at h9; simp at h9
          · have := row_inj hne hz k1.2 k2.2 hr.1
            rw [← k1.1, ← k2.1, this]
    have e := L1.1.trans (show headW f.wide (chunks f).length = headW w' us.length by rw [hww, hn, hlen])
    rw [← L2.1] at e
    have := List.append_cancel_left e
    simp at this
    exact hxy this
  | cons h P =>
    simp only [List.cons_append, linesW, List.cons.injEq] at L1 L2
    have hww : f.wide = w' := by
      have e1 := head_split (wide := f.wide) (chunks f).length (by omega)
      have e2 := head_split (wide := w') us.length hw'.1
      rw [← L1.1, L2.1, e2] at e1
      simp only [List.cons.injEq] at e1
      exact (itoa_inj hw'.1 (by omega) e1.2.1).symm
    subst hww
    have K1 : ∀ l ∈ chunks f, l ≠ [] ∧ ∀ n ∈ l, 0 ≤ n ∧ n ≤ 99999 := fun l hl => ⟨by intro e; have := (hvW l hl).1; rw [e] at this; simp at this; omega, (hvW l hl).2⟩
    have K2 : ∀ l ∈ us, l ≠ [] ∧ ∀ n ∈ l, 0 ≤ n ∧ n ≤ 99999 := fun l hl => ⟨by intro e; have := (hv' l hl).1; rw [e] at this; simp at this; omega, (hv' l hl).2⟩
    by_cases hP : P.length < R
    · obtain ⟨R2, r1, r2⟩ := app_mid (b := p) (by simpa [hn] using hP) L1.2
      obtain ⟨R3, r3, r4⟩ := app_mid (b := p) (by simpa [hlen] using hP) L2.2
      have hRR : R2 = R3 := by
        have h1 := congrArg List.length r1
        have h2 := congrArg List.length r3
        simp [hn, hlen] at h1 h2
        exact (List.append_inj (r2.symm.trans r4) (by omega)).1
      have hend : endW f.wide (chunks f) = endW f.wide us := by
        have := r2.symm.trans r4
        rw [hRR] at this
        simpa using this
      have hchk : chkN f.wide (chunks f) = chkN f.wide us := by
        refine chk_inj (by unfold chkN; omega) (by unfold chkN; omega) ?_
        unfold endW at hend
        rw [join_cons2, join_cons2, Lib.join_one, Lib.join_one] at hend
        simpa using hend
      obtain ⟨A, B1, hA, hAm, hB⟩ := List.map_eq_append_iff.1 r1
      obtain ⟨A', B1', hA', hAm', hB'⟩ := List.map_eq_append_iff.1 r3
      obtain ⟨l, B, rfl, hl1, hBm⟩ := List.map_eq_cons_iff.1 hB
      obtain ⟨l', B', rfl, hl1', hBm'⟩ := List.map_eq_cons_iff.1 hB'
      have hAA : A = A' := rows_inj (fun r hr => K1 r (by rw [hA]; simp [hr])) (fun r hr => K2 r (by rw [hA']; simp [hr])) (by rw [hAm, hAm'])
      have hBB : B = B' := rows_inj (fun r hr => K1 r (by rw [hA]; simp [hr])) (fun r hr => K2 r (by rw [hA']; simp [hr])) (by rw [hBm, hBm', hRR])
      have kl := K1 l (by rw [hA]; simp)
      have kl' := K2 l' (by rw [hA']; simp)
      obtain ⟨k, hk, hd⟩ := row_diff hx hy kl.1 kl'.1 kl.2 kl'.2 hl1 hl1'
      have hi : A.length ≤ 4 := by
        have := congrArg List.length hA
        simp [hn] at this; omega
      subst hAA hBB
      unfold chkN at hchk
      rw [hA, hA', wsum_app, wsum_app, wsum, wsum] at hchk
      have hmod : ((l.sum - l'.sum) * ((A.length : Int) + 1)) % 97 = 0 := by
        rw [Int.sub_mul]
        simp only [Nat.zero_add] at hchk
        omega
      rw [hd] at hmod
      have hx2 : 48 ≤ x.toNat ∧ x.toNat ≤ 57 := by unfold isDig at hx; simpa using hx
      have hy2 : 48 ≤ y.toNat ∧ y.toNat ≤ 57 := by unfold isDig at hy; simpa using hy
      refine not97 (d := (x.toNat : Int) - y.toNat) ?_ (by omega) (by omega) hk hi hmod
      intro e
      exact hxy (UInt8.toNat_inj.1 (by omega))
    · have hr : (chunks f).map rowW = us.map rowW := by
        have h1 := congrArg (List.take R) L1.2
        have h2 := congrArg (List.take R) L2.2
        rw [List.take_append_of_le_length (by omega), List.take_append_of_le_length (by simp [hn]), List.take_of_length_le (l := (chunks f).map rowW) (by simp [hn])] at h1
        rw [List.take_append_of_le_length (by omega), List.take_append_of_le_length (by simp [hlen]), List.take_of_length_le (l := us.map rowW) (by simp [hlen])] at h2
        rw [← h1, ← h2]
      have hvs : chunks f = us := rows_inj K1 K2 hr
      have e := L1.2
      rw [hvs, ← L2.2] at e
      have := List.append_cancel_left e
      simp at this
      exact hxy this
end Go.Av
end
