
import Derived.Test.YtaphehlgijlfeaaGreatDoorWiY4
import Derived.Lib.AtoiAllCases
set_option linter.unusedVariables false
set_option linter.unusedSimpArgs false
section
namespace Go.Av
open Go.Proofs
set_option maxRecDepth 100000
theorem zCm {t : List UInt8} (h : ofB tkR t = true) : (∀ b ∈ t, zAJ b = false) /\ (10 : UInt8) ∉ t /\ (32 : UInt8) ∉ t := by
 have h1 := (zAT h).2
 refine ⟨fun b hb => ?_, fun hb => ?_, fun hb => ?_⟩
 ·
  have := h1 b hb; simp only [zAJ, Bool.or_eq_false_iff, beq_eq_false_iff_ne]; omega
 ·
  have := h1 _ hb; revert this; decide
 ·
  have := h1 _ hb; revert this; decide
theorem zAP {t : List UInt8} (h : ∀ x ∈ t, 48 <= x.toNat /\ x.toNat <= 57) : (∀ b ∈ t, zAJ b = false) /\ (10 : UInt8) ∉ t /\ (32 : UInt8) ∉ t := by
 refine ⟨fun b hb => ?_, fun hb => ?_, fun hb => ?_⟩
 ·
  have := h b hb; simp only [zAJ, Bool.or_eq_false_iff, beq_eq_false_iff_ne]; omega
 ·
  have := h _ hb; revert this; decide
 ·
  have := h _ hb; revert this; decide
theorem zDn {s : Int} (h : 0 <= s /\ s <= 100) : ∀ x ∈ d3 s, 48 <= x.toNat /\ x.toNat <= 57 := fun x hx => by
 unfold d3 at hx
 rcases List.mem_append.1 hx with hx | hx
 ·
  rcases List.mem_append.1 hx with hx | hx
  ·
   exact zAx (by omega) x hx
  ·
   exact zAx (by omega) x hx
 ·
  exact zAx (by omega) x hx
theorem zAU (c : UInt8) : ∀ {a : List UInt8} (b : List UInt8), c ∉ a -> zAm c (a ++ c :: b) = a :: zAm c b
 | [], b, _ => by simp [zAm]
 | x :: a, b, h => by
  have ih := zAU c (a := a) b fun hh => h (List.mem_cons_of_mem _ hh)
  have hx : x ≠ c := fun e => h (by rw [e]; exact List.mem_cons_self ..)
  rw [List.cons_append, zAm, ih]
  simp [hx]
theorem zBa (c : UInt8) : ∀ {a : List UInt8}, c ∉ a -> zAm c a = [a]
 | [], _ => by simp [zAm]
 | x :: a, h => by
  have ih := zBa c (a := a) fun hh => h (List.mem_cons_of_mem _ hh)
  have hx : x ≠ c := fun e => h (by rw [e]; exact List.mem_cons_self ..)
  rw [zAm, ih]
  simp [hx]
theorem join_one (w : List UInt8) (s : List UInt8) : Lib.join [w] s = w := by simp [Lib.join]
theorem zAK : ∀ (ws : List (List UInt8)), ws ≠ [] -> (∀ w ∈ ws, (32 : UInt8) ∉ w) -> zAm 32 (Lib.join ws [32]) = ws
 | [], h, _ => absurd rfl h
 | [w], _, h => by rw [join_one, zBa 32 (h w (by simp))]
 | w :: v :: ws, _, h => by
  rw [zAn, zAU 32 _ (h w (by simp)), zAK (v :: ws) (by simp) fun x hx => h x (List.mem_cons_of_mem _ hx)]
theorem zBx : ∀ (ws : List (List UInt8)), (∀ w ∈ ws, (10 : UInt8) ∉ w) -> (10 : UInt8) ∉ Lib.join ws [32]
 | [], _ => by simp [Lib.join]
 | [w], h => by rw [join_one]; exact h w (by simp)
 | w :: v :: ws, h => by
  rw [zAn]
  have h1 := zBx (v :: ws) fun x hx => h x (List.mem_cons_of_mem _ hx)
  have h2 := h w (by simp)
  simp only [List.mem_append, List.mem_cons, not_or]
  exact ⟨h2, by decide, h1⟩
theorem zAL {ws : List (List UInt8)} (h : ∀ w ∈ ws, (10 : UInt8) ∉ w) (r : List UInt8) : zAm 10 (zAA ws ++ r) = Lib.join ws [32] :: zAm 10 r := by
 unfold zAA
 rw [List.append_assoc, List.singleton_append, zAU 10 r (zBx ws h)]
theorem zBg {ts : List (List UInt8)} (h : ∀ t ∈ ts, (10 : UInt8) ∉ t) : ∀ (k : Nat) (r : List UInt8), zAm 10 (bdC ts k ++ r) = (List.range k).map (fun c => Lib.join (zAs ts c) [32]) ++ zAm 10 r
 | 0, r => by simp [bdC]
 | k + 1, r => by
  rw [zBi, List.append_assoc, zBg h k, zAL (fun w hw => h w (zA2 hw)), List.range_succ, List.map_append]
  simp
theorem zDJ {ts : List (List UInt8)} {c : Nat} (h : c < nCh ts) : zAs ts c ≠ [] := by
 unfold nCh at h
 intro e
 have := congrArg List.length e
 unfold zAs at this
 simp at this; omega
theorem zDj {ts : List (List UInt8)} (h : ts.length <= 8) : ((List.range (nCh ts)).map (zAs ts)).flatten = ts := by
 match ts, h with
 | [], _ => simp [nCh, List.range_succ, zAs]
 | [a], _ => simp [nCh, List.range_succ, zAs]
 | [a, b], _ => simp [nCh, List.range_succ, zAs]
 | [a, b, c], _ => simp [nCh, List.range_succ, zAs]
 | [a, b, c, d], _ => simp [nCh, List.range_succ, zAs]
 | [a, b, c, d, e], _ => simp [nCh, List.range_succ, zAs]
 | [a, b, c, d, e, f], _ => simp [nCh, List.range_succ, zAs]
 | [a, b, c, d, e, f, g], _ => simp [nCh, List.range_succ, zAs]
 | [a, b, c, d, e, f, g, i], _ => simp [nCh, List.range_succ, zAs]
 | a :: b :: c :: d :: e :: f :: g :: i :: j :: l, h => simp at h
theorem zDN {ts : List (List UInt8)} (h : ts.length <= 8) : bdC ts (nCh ts) = zAo ts.length 0 ts := by
 match ts, h with
 | [], _ => rfl
 | [a], _ => simp [bdC, nCh, List.range_succ, zAs, zAA, zAn, join_one, zAo]
 | [a, b], _ => simp [bdC, nCh, List.range_succ, zAs, zAA, zAn, join_one, zAo]
 | [a, b, c], _ => simp [bdC, nCh, List.range_succ, zAs, zAA, zAn, join_one, zAo]
 | [a, b, c, d], _ => simp [bdC, nCh, List.range_succ, zAs, zAA, zAn, join_one, zAo]
 | [a, b, c, d, e], _ => simp [bdC, nCh, List.range_succ, zAs, zAA, zAn, join_one, zAo]
 | [a, b, c, d, e, f], _ => simp [bdC, nCh, List.range_succ, zAs, zAA, zAn, join_one, zAo]
 | [a, b, c, d, e, f, g], _ => simp [bdC, nCh, List.range_succ, zAs, zAA, zAn, join_one, zAo]
 | [a, b, c, d, e, f, g, i], _ => simp [bdC, nCh, List.range_succ, zAs, zAA, zAn, join_one, zAo]
 | a :: b :: c :: d :: e :: f :: g :: i :: j :: l, h => simp at h
theorem zBP {n : Int} {ts : List (List UInt8)} (h : ts.length <= 8) : ptx n ts = txt n ts := by
 unfold ptx txt hdT edT
 rw [zDN h]
 simp [zAA, zAn, join_one]
theorem zB4 : ∀ (l : List UInt8) (acc k : Nat), (∀ b ∈ l, 48 <= b.toNat /\ b.toNat <= 57) -> acc < 10 ^ k -> k + l.length <= 8 ->
  ∃ u : Nat, Lib.parseUint10 acc l = .ok u /\ (u : Int) = l.foldl (fun n b => 10 * n + ((b.toNat : Int) - 48)) (acc : Int)
 | [], acc, k, _, _, _ => ⟨acc, rfl, rfl⟩
 | c :: l, acc, k, h, ha, hk => by
  have hc := h c (List.mem_cons_self ..)
  rw [List.length_cons] at hk
  have h8 : (10 : Nat) ^ k <= 10 ^ 7 := Nat.pow_le_pow_right (by decide) (by omega)
  have h7 : (10 : Nat) ^ 7 = 10000000 := by decide
  obtain ⟨u, h1, h2⟩ := zB4 l (acc * 10 + (c.toNat - 48)) (k + 1) (fun b hb => h b (List.mem_cons_of_mem _ hb)) (by rw [Nat.pow_succ]; omega) (by omega)
  refine ⟨u, ?_, ?_⟩
  ·
   rw [Lib.parseUint10, if_pos hc, if_neg (by omega), if_neg (by omega), h1]
  ·
   rw [h2, List.foldl_cons]
   congr 1
   omega
theorem zC1 {n : Int} (h : 0 <= n /\ n <= 9999) : Lib.atoiAll (Lib.itoa n) = .ok n := by
 have hm := zAx h.1
 have hl := zAN h
 have hn := zAu h.1
 cases hi : Lib.itoa n with
 | nil => rw [hi] at hl; simp at hl
 | cons c r =>
  rw [hi] at hm hl hn
  obtain ⟨u, h1, h2⟩ := zB4 (c :: r) 0 0 hm (by decide) (by omega)
  have hc := hm c (List.mem_cons_self ..)
  have hu : (u : Int) = n := by rw [h2, ← hn]; rfl
  unfold Lib.atoiAll
  simp only
  rw [if_neg (by omega)]
  unfold Lib.parseMag
  rw [if_neg (by simp), h1]
  simp only
  rw [if_neg (by omega), if_neg (by omega), if_neg (by omega), hu]
theorem zCT {n : Int} {ts : List (List UInt8)} (hl : ts.length <= 8) (ht : zAq n ts = true) : zAv (ptx n ts) = some (n, ts) := by
 have htel := ht
 simp only [zAq, Bool.and_eq_true, decide_eq_true_eq, List.all_eq_true] at ht
 have hn := zAP (zAx ht.1.1)
 have hm := zAP (zAx (n := (ts.length : Int)) (by omega))
 have hd := zAP (zDn (zAV n ts))
 have h10 : ∀ t ∈ ts, (10 : UInt8) ∉ t := fun t h => (zCm (ht.2 t h)).2.1
 have h32 : ∀ t ∈ ts, (32 : UInt8) ∉ t := fun t h => (zCm (ht.2 t h)).2.2
 have e0 : zCe (ptx n ts) = Lib.join [wNo, Lib.itoa n, wWd, Lib.itoa (ts.length : Int)] [32] :: ((List.range (nCh ts)).map (fun c => Lib.join (zAs ts c) [32]) ++ [Lib.join [zAQ, d3 (ckT n ts)] [32], []]) := by
  unfold zCe ptx hdT edT
  rw [List.append_assoc, zAL (by
   intro w hw
   simp only [List.mem_cons, List.not_mem_nil, or_false] at hw
   rcases hw with rfl | rfl | rfl | rfl
   ·
    decide
   ·
    exact hn.2.1
   ·
    decide
   ·
    exact hm.2.1), zBg h10]
  have := zAL (ws := [zAQ, d3 (ckT n ts)]) (by
   intro w hw
   simp only [List.mem_cons, List.not_mem_nil, or_false] at hw
   rcases hw with rfl | rfl
   ·
    decide
   ·
    exact hd.2.1) []
  rw [List.append_nil] at this
  rw [this]; rfl
 have e1 : hdW (ptx n ts) = [wNo, Lib.itoa n, wWd, Lib.itoa (ts.length : Int)] := by
  unfold hdW
  rw [e0, List.headD_cons, zAK _ (by simp)]
  intro w hw
  simp only [List.mem_cons, List.not_mem_nil, or_false] at hw
  rcases hw with rfl | rfl | rfl | rfl
  ·
   decide
  ·
   exact hn.2.2
  ·
   decide
  ·
   exact hm.2.2
 have e2 : zDp (ptx n ts) = (List.range (nCh ts)).map (fun c => Lib.join (zAs ts c) [32]) := by
  unfold zDp
  rw [e0]
  generalize hM : (List.range (nCh ts)).map (fun c => Lib.join (zAs ts c) [32]) = M
  rw [show (Lib.join [wNo, Lib.itoa n, wWd, Lib.itoa (ts.length : Int)] [32] :: (M ++ [Lib.join [zAQ, d3 (ckT n ts)] [32], []])).length - 2 = M.length + 1 by simp]
  rw [List.take_succ_cons, List.drop_succ_cons, List.drop_zero, List.take_append_of_le_length (Nat.le_refl _), List.take_length]
 have e3 : zA7 (ptx n ts) = ts := by
  unfold zA7
  rw [e2, List.map_map]
  have : (List.range (nCh ts)).map (zAm 32 ∘ fun c => Lib.join (zAs ts c) [32]) = (List.range (nCh ts)).map (zAs ts) := by
   refine List.map_congr_left fun c hc => ?_
   simp only [List.mem_range] at hc
   exact zAK _ (zDJ hc) fun w hw => h32 w (zA2 hw)
  rw [this, zDj hl]
 refine (zB2 (n := n) ?_ ?_ ?_).trans (by rw [e3])
 ·
  unfold headW
  rw [e1, e0]; simp
 ·
  rw [e1]; exact zC1 ht.1
 ·
  rw [e3]
  refine ⟨?_, rfl⟩
  unfold zAI
  rw [if_neg (by omega), htel]; rfl
theorem zBm {s : List UInt8} {n : Int} {ts : List (List UInt8)} (h : zAv s = some (n, ts)) : ts.length <= 8 /\ zAq n ts = true /\ s = txt n ts := by
 unfold zAv at h
 split at h
 ·
  split at h
  ·
   split at h
   ·
    rename_i hc
    injection h with h
    injection h with h1 h2
    subst h1; subst h2
    obtain ⟨h3, h4⟩ := zDc hc.1
    exact ⟨h3, h4, by rw [← zBP h3]; exact hc.2.symm⟩
   ·
    cases h
  ·
   cases h
 ·
  cases h
theorem zBw {n : Int} {ts : List (List UInt8)} (hl : ts.length <= 8) (ht : zAq n ts = true) : zAv (txt n ts) = some (n, ts) := by rw [← zBP hl]; exact zCT hl ht
theorem zAE {c : UInt8} (hc : zAJ c = true) : ∀ (a cur r : List UInt8), (∀ b ∈ a, zAJ b = false) -> spA cur (a ++ c :: r) = (cur ++ a) :: spA [] r
 | [], cur, r, _ => by rw [List.nil_append, spA, if_pos hc, List.append_nil]
 | x :: a, cur, r, h => by
  rw [List.cons_append, spA, h x (List.mem_cons_self ..)]
  simp only [Bool.false_eq_true, if_false]
  rw [zAE hc a (cur ++ [x]) r fun b hb => h b (List.mem_cons_of_mem _ hb)]; simp
theorem zCI (m : Nat) : ∀ (ts : List (List UInt8)) (i : Nat) (r : List UInt8), (∀ t ∈ ts, ∀ b ∈ t, zAJ b = false) -> spA [] (zAo m i ts ++ r) = ts ++ spA [] r
 | [], i, r, _ => by simp [zAo]
 | t :: ts, i, r, h => by
  rw [zAo, List.append_assoc, List.append_assoc, List.singleton_append, zAE (by split <;> decide) t [] _ (h t (List.mem_cons_self ..)), zCI m ts (i + 1) r fun x hx => h x (List.mem_cons_of_mem _ hx)]
  simp
theorem zDW {n : Int} {ts : List (List UInt8)} (ht : zAq n ts = true) : spA [] (txt n ts) = [wNo, Lib.itoa n, wWd, Lib.itoa (ts.length : Int)] ++ (ts ++ [zAQ, d3 (ckT n ts), []]) := by
 simp only [zAq, Bool.and_eq_true, decide_eq_true_eq, List.all_eq_true] at ht
 have hn := (zAP (zAx ht.1.1)).1
 have hm := (zAP (zAx (n := (ts.length : Int)) (by omega))).1
 have hd := (zAP (zDn (zAV n ts))).1
 have e : txt n ts = wNo ++ 32 :: (Lib.itoa n ++ 32 :: (wWd ++ 32 :: (Lib.itoa (ts.length : Int) ++ 10 :: (zAo ts.length 0 ts ++ (zAQ ++ 32 :: (d3 (ckT n ts) ++ 10 :: [])))))) := by simp [txt]
 rw [e, zAE (by decide) wNo [] _ (by decide), zAE (by decide) _ [] _ hn, zAE (by decide) wWd [] _ (by decide), zAE (by decide) _ [] _ hm, zCI _ ts 0 _ fun t h => (zCm (ht.2 t h)).1, zAE (by decide) zAQ [] _ (by decide), zAE (by decide) _ [] _ hd]
 simp [spA]
theorem zDG {n : Int} {ts : List (List UInt8)} (hl : ts.length <= 8) (ht : zAq n ts = true) : rdR (txt n ts) = (n, ts, true) := by
 have hs := zDW ht
 have htel := ht
 simp only [zAq, Bool.and_eq_true, decide_eq_true_eq, List.all_eq_true] at ht
 have e1 : (spA [] (txt n ts)).getD 1 [] = Lib.itoa n := by rw [hs]; rfl
 have e2 : rdN (txt n ts) = n := by unfold rdN; rw [e1, zAu ht.1.1]
 have e4 : (spA [] (txt n ts)).length = ts.length + 7 := by rw [hs]; simp
 have e3 : rdT (txt n ts) = ts := by
  unfold rdT
  rw [e4, hs, show ts.length + 7 - 3 = ([wNo, Lib.itoa n, wWd, Lib.itoa (ts.length : Int)] : List (List UInt8)).length + ts.length by simp; omega, List.take_length_add_append]
  show List.take ts.length (ts ++ [zAQ, d3 (ckT n ts), []]) = ts
  rw [List.take_append_of_le_length (Nat.le_refl _), List.take_length]
 have h4 := zAw ht.1
 have hfg : zCv (Lib.itoa n) = true := List.all_eq_true.2 fun b hb => by
  have := zAx ht.1.1 b hb
  simp only [zl8, Bool.and_eq_true, decide_eq_true_eq]; omega
 rw [zDh (by unfold rdH; rw [e4, e1, e2, e3, htel, hfg]; simp; omega), e2, e3]; simp
theorem zCb {s : List UInt8} {a : Int} {b : List (List UInt8)} (h : rdR s = (a, b, true)) : b.length <= 8 /\ zAq a b = true /\ s = txt a b := by
 unfold rdR at h
 split at h
 ·
  rename_i hh
  injection h with h1 h2
  injection h2 with h2 h3
  subst h1; subst h2
  unfold rdH at hh
  simp only [Bool.and_eq_true, decide_eq_true_eq] at hh
  simp only [beq_iff_eq] at h3
  exact ⟨hh.1.2, hh.2, h3.symm⟩
 ·
  injection h with h1 h2; injection h2 with h2 h3; cases h3
theorem zBA {s : List UInt8} {a : Int} {b : List (List UInt8)} {c : Bool} (h : rdR s = (a, b, c)) : zAv s = if c = true then some (a, b) else none := by
 cases c with
 | true =>
  obtain ⟨h1, h2, rfl⟩ := zCb h
  exact zBw h1 h2
 | false =>
  cases hr : zAv s with
  | none => rfl
  | some p =>
   obtain ⟨n, ts⟩ := p
   obtain ⟨h1, h2, rfl⟩ := zBm hr
   rw [zDG h1 h2] at h
   injection h with _ h; injection h with _ h; cases h
theorem zCK {n : Int} {ts : List (List UInt8)} (h : zAq n ts = true) (hl : ts.length <= 8) : (txt n ts).length <= 200 := by
 have h1 := zBM h hl
 have h2 := zAw (zDf h).1
 omega
theorem zDU {n : Int} {ts : List (List UInt8)} (h : zAq n ts = true) (hl : ts.length <= 8) {i : Nat} {y : UInt8} (hi : i < (txt n ts).length) (hne : (txt n ts)[i] ≠ y) : zAv ((txt n ts).set i y) = none := by
 cases hr : zAv ((txt n ts).set i y) with
 | none => rfl
 | some p =>
  exfalso
  obtain ⟨k, us⟩ := p
  obtain ⟨h1, h2, h3⟩ := zBm hr
  have hh := zCL (txt n ts) i y
  rw [h3] at hh
  have hle : (txt n ts).length = (txt k us).length := by rw [← h3]; simp
  have he := zDV h h2 hl h1 hle hh
  obtain ⟨rfl, rfl⟩ := he
  have hg : ((txt n ts).set i y)[i]'(by simpa using hi) = y := by simp
  have h5 : (txt n ts)[i] = y := by
   have h6 : ((txt n ts).set i y)[i]? = (txt n ts)[i]? := by rw [h3]
   rw [List.getElem?_eq_getElem hi, List.getElem?_eq_getElem (by simpa using hi), hg] at h6
   injection h6 with h6; exact h6.symm
  exact hne h5
end Go.Av
end
