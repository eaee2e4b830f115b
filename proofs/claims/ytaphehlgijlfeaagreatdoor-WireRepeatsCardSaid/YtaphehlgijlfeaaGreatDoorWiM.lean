/- The messages that copies can be: the search, and what it finds. · The reference's way to the messages that copies can be. · How large the search's numbers grow, and how many messages it finds at most. -/
import Derived.Test.YtaphehlgijlfeaaGreatDoorWiL
import Derived.Test.YtaphehlgijlfeaaGreatDoorPlatK
set_option linter.unusedVariables false
set_option linter.unusedSimpArgs false
section
namespace Go.Av
open Go.Proofs
set_option linter.unusedSimpArgs false

def dg (m : List Int) (q j : Nat) : Int := if h : j < m.length then dig m[j] q else sumD m q % 10
theorem dg_lt {m : List Int} {q j : Nat} (h : j < m.length) : dg m q j = dig m[j] q := by unfold dg; rw [dif_pos h]
theorem dg_ge {m : List Int} {q j : Nat} (h : m.length ≤ j) : dg m q j = sumD m q % 10 := by unfold dg; rw [dif_neg (by omega)]
theorem figA_grps {m : List Int} {j q : Nat} (hj : j < (grps m).length) (hq : q < 5) : figA (grps m)[j] q = dg m q j := by
  have hl : (grps m).length = m.length + 1 := by simp [grps]
  by_cases h : j < m.length
  · rw [dg_lt h]
    have e : (grps m)[j] = figs m[j] := by simp [grps, h]
    rw [e]
    match q, hq with
    | 0, _ => rfl
    | 1, _ => rfl
    | 2, _ => rfl
    | 3, _ => rfl
    | 4, _ => rfl
  · have hj' : j = m.length := by omega
    subst hj'
    rw [dg_ge (Nat.le_refl _)]
    have e : (grps m)[m.length]'hj = chk m := by simp [grps]
    rw [e, ← figs_ck]
    simp only [figs, ckN]
    match q, hq with
    | 0, _ => show _ / 10 / 10 / 10 / 10 % 10 = _; omega
    | 1, _ => show _ / 10 / 10 / 10 % 10 = _; omega
    | 2, _ => show _ / 10 / 10 % 10 = _; omega
    | 3, _ => show _ / 10 % 10 = _; omega
    | 4, _ => show _ % 10 = _; omega

def pv (x : Int) (p : Nat) : Int := dv x (5 - p)
theorem pv5 (x : Int) : pv x 5 = x := rfl
theorem pv_succ (x : Int) {p : Nat} (h : p < 5) : pv x p = pv x (p + 1) / 10 ∧ dig x p = pv x (p + 1) % 10 := by
  match p, h with
  | 0, _ => exact ⟨rfl, rfl⟩
  | 1, _ => exact ⟨rfl, rfl⟩
  | 2, _ => exact ⟨rfl, rfl⟩
  | 3, _ => exact ⟨rfl, rfl⟩
  | 4, _ => exact ⟨rfl, rfl⟩
theorem pv_step (x : Int) {p : Nat} (h : p < 5) : pv x (p + 1) = 10 * pv x p + dig x p := by
  obtain ⟨h1, h2⟩ := pv_succ x h; omega
theorem pv0 {x : Int} (h : 0 ≤ x ∧ x ≤ 99999) : pv x 0 = 0 := by show x / 10 / 10 / 10 / 10 / 10 = 0; omega
def preL : List Int → Nat → Nat → List Int
  | [], _, _ => []
  | x :: xs, p, 0 => pv x p :: preL xs p 0
  | x :: xs, p, a + 1 => pv x (p + 1) :: preL xs p a
theorem preL_len : ∀ (m : List Int) (p a : Nat), (preL m p a).length = m.length
  | [], _, _ => rfl
  | _ :: xs, p, 0 => by simp [preL, preL_len xs p 0]
  | _ :: xs, p, a + 1 => by simp [preL, preL_len xs p a]
theorem preL_full : ∀ (m : List Int) (p a : Nat), m.length ≤ a → preL m p a = preL m (p + 1) 0
  | [], _, _, _ => rfl
  | _ :: _, _, 0, h => by simp at h
  | x :: xs, p, a + 1, h => by simp only [preL]; rw [preL_full xs p a (by simpa using h)]
theorem preL_5 : ∀ m : List Int, preL m 5 0 = m
  | [] => rfl
  | x :: xs => by simp only [preL, pv5]; rw [preL_5 xs]
theorem preL_at : ∀ {m : List Int} {p a j : Nat} (h : j < m.length), (preL m p a)[j]'(by rw [preL_len]; exact h) = pv m[j] (if j < a then p + 1 else p)
  | x :: xs, p, 0, 0, _ => rfl
  | x :: xs, p, 0, j + 1, h => by
    simp only [preL, List.getElem_cons_succ]
    rw [preL_at (by simpa using h)]; simp
  | x :: xs, p, a + 1, 0, _ => by simp [preL]
  | x :: xs, p, a + 1, j + 1, h => by
    simp only [preL, List.getElem_cons_succ]
    rw [preL_at (by simpa using h)]; simp
theorem preL_step {m : List Int} {p a : Nat} (h : a < m.length) (hp : p < 5) : preL m p (a + 1) = (preL m p a).set a (10 * pv m[a] p + dig m[a] p) := by
  refine List.ext_getElem (by simp [preL_len]) fun j h1 h2 => ?_
  have hj : j < m.length := by simpa [preL_len] using h1
  rw [preL_at hj, List.getElem_set]
  by_cases e : a = j
  · subst e
    rw [if_pos rfl, if_pos (by omega), pv_step _ hp]
  · rw [if_neg e, preL_at hj]
    by_cases h3 : j < a
    · rw [if_pos h3, if_pos (by omega)]
    · rw [if_neg h3, if_neg (by omega)]
theorem preL_back {m now : List Int} {p a : Nat} {f : Int} (h : a < m.length) (hp : p < 5) (hl : now.length = m.length) (hf : 0 ≤ f ∧ f ≤ 9) (e : preL m p (a + 1) = now.set a (10 * (now.getD a 0) + f)) : preL m p a = now ∧ f = dig m[a] p := by
  have ha : a < now.length := by omega
  have hg : now.getD a 0 = now[a] := by simp [List.getD_eq_getElem?_getD, List.getElem?_eq_getElem ha]
  have key : ∀ j (hj : j < m.length), pv m[j] (if j < a + 1 then p + 1 else p) = if a = j then 10 * now[a] + f else now[j]'(by omega) := fun j hj => by
    have h1 := preL_at (p := p) (a := a + 1) hj
    rw [← h1]
    simp only [e, hg]
    rw [List.getElem_set]
  have ka := key a h
  rw [if_pos (by omega), if_pos rfl] at ka
  obtain ⟨h1, h2⟩ := pv_succ m[a] hp
  refine ⟨List.ext_getElem (by rw [preL_len, hl]) fun j h3 h4 => ?_, by omega⟩
  have hj : j < m.length := by rwa [preL_len] at h3
  rw [preL_at hj]
  by_cases ej : a = j
  · subst ej
    rw [if_neg (by omega)]; omega
  · have := key j hj
    rw [if_neg ej] at this
    rw [← this]
    by_cases h5 : j < a
    · rw [if_pos h5, if_pos (by omega)]
    · rw [if_neg h5, if_neg (by omega)]

def srch (c : Cod) (l : List (List (List UInt8))) : Nat → Nat → Nat → Int → Int × Int × Int → List Int → List (List Int)
  | 0, _, _, _, _, _ => []
  | fu + 1, place, a, sum, n, now =>
    if place = 5 then (if msgB c now then [now] else [])
    else if a = c.fields.length then (if plOk c l a place (sum % 10) n then srch c l fu (place + 1) 0 0 (plN l a place (sum % 10) n) now else [])
    else (canL c l a place n).flatMap fun (f : Nat) => srch c l fu place (a + 1) (sum + (f : Int)) (plN l a place (f : Int) n) (now.set a (10 * now.getD a 0 + (f : Int)))
def stp (k : Nat) : Nat → Nat → Nat → List (Nat × Nat)
  | 0, _, _ => []
  | fu + 1, p, a => if p = 5 then [] else (p, a) :: (if a = k then stp k fu (p + 1) 0 else stp k fu p (a + 1))
def seqL (c : Cod) (l : List (List (List UInt8))) (m : List Int) : List (Nat × Nat) → Int × Int × Int → Bool
  | [], _ => true
  | s :: r, n => plOk c l s.2 s.1 (dg m s.1 s.2) n && seqL c l m r (plN l s.2 s.1 (dg m s.1 s.2) n)
def sumN (now : List Int) (a : Nat) : Int := (now.take a).foldl (fun s x => s + x % 10) 0
theorem sumN_step {now : List Int} {a : Nat} (h : a < now.length) : sumN now (a + 1) = sumN now a + now[a] % 10 := by
  unfold sumN; rw [List.take_succ_eq_append_getElem h, List.foldl_append]; rfl
theorem sumN_set {now : List Int} {a : Nat} {x : Int} : sumN (now.set a x) a = sumN now a := by
  unfold sumN; rw [List.take_set_of_le (by omega)]
theorem sumN_preL : ∀ (m : List Int) (p : Nat), p < 5 → sumN (preL m p m.length) m.length = sumD m p := fun m p hp => by
  have e : sumN (preL m p m.length) m.length = (preL m p m.length).foldl (fun s x => s + x % 10) 0 := by
    unfold sumN; rw [List.take_of_length_le (by rw [preL_len]; exact Nat.le_refl _)]
  rw [e, preL_full m p _ (Nat.le_refl _)]
  unfold sumD
  have key : ∀ (m : List Int) (t : Int), (preL m (p + 1) 0).foldl (fun s x => s + x % 10) t = m.foldl (fun s n => s + dig n p) t := by
    intro m
    induction m with
    | nil => intro t; rfl
    | cons x xs ih =>
      intro t
      simp only [preL, List.foldl_cons]
      rw [ih, (pv_succ x hp).2]
  exact key m 0
theorem mem_canL {c : Cod} {l : List (List (List UInt8))} {a place : Nat} {n : Int × Int × Int} {f : Nat} : f ∈ canL c l a place n ↔ f < 10 ∧ plOk c l a place (f : Int) n = true := by
  simp [canL]
def fuelS (k place a : Nat) : Nat := (5 - place) * (k + 1) + (k - a) + 1
theorem srch_mem (c : Cod) (l : List (List (List UInt8))) : ∀ (fu place a : Nat) (sum : Int) (n : Int × Int × Int) (now m : List Int), place ≤ 5 → a ≤ c.fields.length → (place = 5 → a = 0) → fuelS c.fields.length place a ≤ fu → now.length = c.fields.length → sum = sumN now a →
    (m ∈ srch c l fu place a sum n now ↔ msgB c m = true ∧ preL m place a = now ∧ seqL c l m (stp c.fields.length fu place a) n = true) := by
  intro fu
  induction fu with
  | zero => intro place a sum n now m _ _ _ h; unfold fuelS at h; omega
  | succ fu ih =>
    intro place a sum n now m hp ha h5 hfu hl hs
    simp only [srch, stp]
    by_cases e5 : place = 5
    · subst e5
      have := h5 rfl; subst this
      rw [if_pos rfl, if_pos rfl, preL_5]
      simp only [seqL, and_true]
      by_cases hm : msgB c now = true
      · rw [if_pos hm]
        simp only [List.mem_singleton]
        constructor
        · rintro rfl; exact ⟨hm, rfl⟩
        · exact fun h => h.2
      · rw [if_neg hm]
        simp only [List.not_mem_nil, false_iff, not_and]
        rintro h rfl; exact hm h
    · rw [if_neg e5, if_neg e5]
      have hp5 : place < 5 := by omega
      have hmu : (5 - place) * (c.fields.length + 1) = (5 - (place + 1)) * (c.fields.length + 1) + (c.fields.length + 1) := by
        rw [← Nat.succ_mul]; congr 1; omega
      simp only [seqL]
      by_cases ea : a = c.fields.length
      · rw [if_pos ea, if_pos ea]
        have ih' := ih (place + 1) 0 0 (plN l a place (sum % 10) n) now m (by omega) (by omega) (fun _ => rfl) (by unfold fuelS at hfu ⊢; omega) hl (by simp [sumN])
        have hD : msgB c m = true → preL m place a = now → dg m place a = sum % 10 := fun hm hpre => by
          have hml := msg_len hm
          rw [dg_ge (by omega), hs, ← hpre, ea, ← hml, sumN_preL m place hp5]
        have hP : m.length = c.fields.length → preL m place a = preL m (place + 1) 0 := fun hm => preL_full m place a (by omega)
        constructor
        · intro h
          split at h
          · rename_i hb
            rw [ih'] at h
            have hpre : preL m place a = now := by rw [hP (msg_len h.1)]; exact h.2.1
            have hd := hD h.1 hpre
            refine ⟨h.1, hpre, ?_⟩
            rw [hd, hb, Bool.true_and]; exact h.2.2
          · cases h
        · rintro ⟨h1, h2, h3⟩
          have hd := hD h1 h2
          rw [hd, Bool.and_eq_true] at h3
          rw [if_pos h3.1, ih']
          exact ⟨h1, by rw [← hP (msg_len h1)]; exact h2, h3.2⟩
      · rw [if_neg ea, if_neg ea]
        have halt : a < c.fields.length := by omega
        have han : a < now.length := by omega
        have hg : now.getD a 0 = now[a] := by simp [List.getD_eq_getElem?_getD, List.getElem?_eq_getElem han]
        have ih' : ∀ f : Nat, f < 10 → (m ∈ srch c l fu place (a + 1) (sum + (f : Int)) (plN l a place (f : Int) n) (now.set a (10 * now.getD a 0 + (f : Int))) ↔ msgB c m = true ∧ preL m place (a + 1) = now.set a (10 * now.getD a 0 + (f : Int)) ∧ seqL c l m (stp c.fields.length fu place (a + 1)) (plN l a place (f : Int) n) = true) := fun f hf =>
          ih place (a + 1) _ _ _ m hp (by omega) (fun h => absurd h e5) (by unfold fuelS at hfu ⊢; omega) (by simpa using hl) (by
            rw [sumN_step (by simpa using han), sumN_set, hs]
            simp only [List.getElem_set_self]
            omega)
        simp only [List.mem_flatMap, mem_canL]
        constructor
        · rintro ⟨f, ⟨hf, hb⟩, h⟩
          rw [ih' f hf] at h
          have hml := msg_len h.1
          obtain ⟨k1, k2⟩ := preL_back (a := a) (by omega) hp5 (by omega) (by omega) h.2.1
          refine ⟨h.1, k1, ?_⟩
          rw [dg_lt (show a < m.length by omega), ← k2, hb, Bool.true_and]
          exact h.2.2
        · rintro ⟨h1, h2, h3⟩
          have hml := msg_len h1
          have hd : dg m place a = dig (m[a]'(by omega)) place := dg_lt (by omega)
          have hb := dig_bd (n := m[a]'(by omega)) place
          have hf : (((dig (m[a]'(by omega)) place).toNat : Nat) : Int) = dig (m[a]'(by omega)) place := by omega
          rw [hd, Bool.and_eq_true] at h3
          refine ⟨(dig (m[a]'(by omega)) place).toNat, ⟨by omega, by rw [hf]; exact h3.1⟩, ?_⟩
          rw [ih' _ (by omega), hf]
          refine ⟨h1, ?_, h3.2⟩
          rw [preL_step (by omega) hp5, h2, hg]
          congr 2
          have := preL_at (m := m) (p := place) (a := a) (j := a) (by omega)
          rw [if_neg (by omega)] at this
          rw [← this]
          simp only [h2]
/-! What the search finds. -/
def okS (c : Cod) (l : List (List (List UInt8))) (m : List Int) (i : Nat) : List (Nat × Nat) → Int → Bool
  | [], _ => true
  | s :: r, x => okQ c l s.2 s.1 (dg m s.1 s.2) i x && okS c l m i r (x + wP l s.2 s.1 (dg m s.1 s.2) i)
theorem seqL_okS (c : Cod) (l : List (List (List UInt8))) (m : List Int) : ∀ (S : List (Nat × Nat)) (n : Int × Int × Int), seqL c l m S n = (okS c l m 0 S n.1 && (okS c l m 1 S n.2.1 && okS c l m 2 S n.2.2))
  | [], _ => rfl
  | s :: r, n => by
    simp only [seqL, okS, seqL_okS c l m r, plOk, plN]
    cases okQ c l s.2 s.1 (dg m s.1 s.2) 0 n.1 <;> cases okQ c l s.2 s.1 (dg m s.1 s.2) 1 n.2.1 <;> cases okQ c l s.2 s.1 (dg m s.1 s.2) 2 n.2.2 <;>
      cases okS c l m 0 r (n.1 + wP l s.2 s.1 (dg m s.1 s.2) 0) <;> cases okS c l m 1 r (n.2.1 + wP l s.2 s.1 (dg m s.1 s.2) 1) <;> cases okS c l m 2 r (n.2.2 + wP l s.2 s.1 (dg m s.1 s.2) 2) <;> rfl
theorem okS_big {c : Cod} {l : List (List (List UInt8))} {m : List Int} {i : Nat} (h : l.length ≤ i) : ∀ (S : List (Nat × Nat)) (x : Int), okS c l m i S x = true
  | [], _ => rfl
  | s :: r, x => by simp only [okS, okQ_big h, okS_big h r, Bool.and_self]
def rcv (m : List Int) (g : List (List UInt8)) (s : Nat × Nat) : Int × Int := (chF g s.2 s.1, dg m s.1 s.2)
def wsum (m : List Int) (g : List (List UInt8)) (S : List (Nat × Nat)) : Int := S.foldr (fun s t => wrN (rcv m g s) + t) 0
theorem wsum_bd (m : List Int) (g : List (List UInt8)) : ∀ S, 0 ≤ wsum m g S
  | [] => Int.le_refl _
  | s :: r => by
    have h1 := wsum_bd m g r
    have h2 := wrN_bd (rcv m g s)
    show 0 ≤ wrN _ + wsum m g r
    omega
theorem okS_iff {c : Cod} {l : List (List (List UInt8))} {m : List Int} {i : Nat} (h : i < l.length) : ∀ (S : List (Nat × Nat)) (x : Int), x ≤ c.most → okS c l m i S x = (S.all (fun s => okP c (rcv m l[i] s)) && decide (x + wsum m l[i] S ≤ c.most))
  | [], x, hx => by simp [okS, wsum, hx]
  | s :: r, x, hx => by
    have hw : wP l s.2 s.1 (dg m s.1 s.2) i = wrN (rcv m l[i] s) := by unfold wP rcv; rw [dif_pos h]
    have hq : okQ c l s.2 s.1 (dg m s.1 s.2) i x = (okP c (rcv m l[i] s) && decide (x + wrN (rcv m l[i] s) ≤ c.most)) := by unfold okQ rcv; rw [dif_pos h]
    have hs : wsum m l[i] (s :: r) = wrN (rcv m l[i] s) + wsum m l[i] r := rfl
    have hb := wsum_bd m l[i] r
    simp only [okS, hw, hq, List.all_cons, hs]
    by_cases hle : x + wrN (rcv m l[i] s) ≤ c.most
    · rw [okS_iff h r _ hle, decide_eq_true hle, Bool.and_true, Bool.and_assoc]
      congr 3
      rw [Int.add_assoc]
    · rw [decide_eq_false hle, Bool.and_false, Bool.false_and, decide_eq_false (by omega), Bool.and_false]

theorem cntW_sumR {xs : List (Int × Int)} {F : Nat → Int × Int} : ∀ k, k ≤ xs.length → (∀ q (h : q < xs.length), xs[q] = F q) → cntW (xs.take k) = sumR k (fun q => wrN (F q))
  | 0, _, _ => by simp [cntW, sumR]
  | k + 1, hk, h => by rw [cntW_step (by omega), cntW_sumR k (by omega) h, h k (by omega)]; rfl
theorem cntP_sumR {L : List (List (Int × Int))} {F : Nat → Nat → Int × Int} : ∀ k, k ≤ L.length → (∀ j (h : j < L.length), cntW L[j] = sumR 5 (fun q => wrN (F j q))) → cntP (L.take k) = sumR k (fun j => sumR 5 (fun q => wrN (F j q)))
  | 0, _, _ => by simp [cntP, sumR]
  | k + 1, hk, h => by rw [cntP_step (by omega), cntP_sumR k (by omega) h, h k (by omega)]; rfl
def grid (k : Nat) : List (Nat × Nat) := (List.range 5).flatMap fun q => (List.range (k + 1)).map fun j => (q, j)
theorem mem_grid {k : Nat} {s : Nat × Nat} : s ∈ grid k ↔ s.1 < 5 ∧ s.2 ≤ k := by
  obtain ⟨q, j⟩ := s
  simp [grid]; omega
theorem stp_grid {k : Nat} (h : 1 ≤ k ∧ k ≤ 3) : stp k 24 0 0 = grid k := by
  have : k = 1 ∨ k = 2 ∨ k = 3 := by omega
  rcases this with rfl | rfl | rfl <;> rfl
theorem wsum_grid {k : Nat} (h : 1 ≤ k ∧ k ≤ 3) (m : List Int) (g : List (List UInt8)) : wsum m g (grid k) = sumR 5 (fun q => sumR (k + 1) (fun j => wrN (rcv m g (q, j)))) := by
  have : k = 1 ∨ k = 2 ∨ k = 3 := by omega
  rcases this with rfl | rfl | rfl
  · show wsum m g [(0,0),(0,1),(1,0),(1,1),(2,0),(2,1),(3,0),(3,1),(4,0),(4,1)] = _
    simp only [wsum, List.foldr_cons, List.foldr_nil, sumR]; omega
  · show wsum m g [(0,0),(0,1),(0,2),(1,0),(1,1),(1,2),(2,0),(2,1),(2,2),(3,0),(3,1),(3,2),(4,0),(4,1),(4,2)] = _
    simp only [wsum, List.foldr_cons, List.foldr_nil, sumR]; omega
  · show wsum m g [(0,0),(0,1),(0,2),(0,3),(1,0),(1,1),(1,2),(1,3),(2,0),(2,1),(2,2),(2,3),(3,0),(3,1),(3,2),(3,3),(4,0),(4,1),(4,2),(4,3)] = _
    simp only [wsum, List.foldr_cons, List.foldr_nil, sumR]; omega
theorem cod_bd {c : Cod} (h : codB c = true) : (1 ≤ c.fields.length ∧ c.fields.length ≤ 3) ∧ 0 ≤ c.most ∧ c.most ≤ 2 := by
  simp only [codB, Bool.and_eq_true, inB_iff] at h
  omega
theorem prs_facts {c : Cod} {m : List Int} {g : List (List UInt8)} (hm : msgB c m = true) (hg : copB c g = true) : (prs m g).length = c.fields.length + 1 ∧ ∀ j (h : j < (prs m g).length), ((prs m g)[j]).length = 5 ∧ ∀ q (h2 : q < ((prs m g)[j]).length), (prs m g)[j][q] = rcv m g (q, j) := by
  obtain ⟨h1, h2⟩ := cop_at hg
  have hml := msg_len hm
  have hgl : (grps m).length = m.length + 1 := by simp [grps]
  have hpl : (prs m g).length = c.fields.length + 1 := by simp [prs]; omega
  refine ⟨hpl, fun j h => ?_⟩
  have hjg : j < (grps m).length := by omega
  have hj : j < g.length := by omega
  have h5 := ofB_len (h2 _ (List.getElem_mem hj))
  have e := prs_at hjg hj
  have hl : ((prs m g)[j]).length = 5 := by rw [e, five_len h5]
  refine ⟨hl, fun q hq => ?_⟩
  have hq5 : q < 5 := by omega
  have e2 : (prs m g)[j][q] = (five (grps m)[j] g[j])[q]'(by rw [five_len h5]; exact hq5) := by simp only [e]
  rw [e2, five_at h5 hq5, figA_grps hjg hq5]
  unfold rcv chF
  have e3 : g.getD j [] = g[j] := by rw [List.getD_eq_getElem?_getD, List.getElem?_eq_getElem hj, Option.getD_some]
  have e4 : g[j].getD q 0 = g[j][q]'(by omega) := by rw [List.getD_eq_getElem?_getD, List.getElem?_eq_getElem (by omega), Option.getD_some]
  rw [e3, e4]
theorem canB_grid {c : Cod} {m : List Int} {g : List (List UInt8)} (hc : codB c = true) (hm : msgB c m = true) (hg : copB c g = true) : ((grid c.fields.length).all (fun s => okP c (rcv m g s)) && decide (0 + wsum m g (grid c.fields.length) ≤ c.most)) = canB c m g := by
  obtain ⟨hpl, hp⟩ := prs_facts hm hg
  have hcb := cod_bd hc
  have hcnt : cntP (prs m g) = sumR (c.fields.length + 1) (fun j => sumR 5 (fun q => wrN (rcv m g (q, j)))) := by
    have := cntP_sumR (L := prs m g) (F := fun j q => rcv m g (q, j)) _ (Nat.le_refl _) (fun j h => by
      have := cntW_sumR (xs := (prs m g)[j]) (F := fun q => rcv m g (q, j)) 5 (by rw [(hp j h).1]; exact Nat.le_refl _) (hp j h).2
      rwa [List.take_of_length_le (by rw [(hp j h).1]; exact Nat.le_refl _)] at this)
    rwa [List.take_of_length_le (Nat.le_refl _), hpl] at this
  unfold canB
  rw [wsum_grid hcb.1, sumR_swap, hcnt, Int.zero_add]
  congr 1
  rw [Bool.eq_iff_iff, List.all_eq_true, List.all_eq_true]
  constructor
  · intro h xs hx
    obtain ⟨j, hj, rfl⟩ := List.mem_iff_getElem.1 hx
    rw [List.all_eq_true]
    intro y hy
    obtain ⟨q, hq, rfl⟩ := List.mem_iff_getElem.1 hy
    rw [(hp j hj).2 q hq]
    exact h (q, j) (mem_grid.2 ⟨by rw [(hp j hj).1] at hq; exact hq, by omega⟩)
  · intro h
    rintro ⟨q, j⟩ hs
    have hs := mem_grid.1 hs
    have hj : j < (prs m g).length := by rw [hpl]; have := hs.2; simp only at this; omega
    have h2 := List.all_eq_true.1 (h _ (List.getElem_mem hj))
    have hq : q < ((prs m g)[j]).length := by rw [(hp j hj).1]; exact hs.1
    have := h2 _ (List.getElem_mem hq)
    rwa [(hp j hj).2 q hq] at this
def msgs (c : Cod) (l : List (List (List UInt8))) : List (List Int) := sortL (srch c l 24 0 0 0 (0, 0, 0) (List.replicate c.fields.length 0))
theorem preL_00 : ∀ {m : List Int}, (∀ x ∈ m, 0 ≤ x ∧ x ≤ 99999) → preL m 0 0 = List.replicate m.length 0
  | [], _ => rfl
  | x :: xs, h => by
    simp only [preL, List.length_cons, List.replicate_succ]
    rw [pv0 (h x (List.mem_cons_self ..)), preL_00 (fun y hy => h y (List.mem_cons_of_mem _ hy))]
theorem mem_msgs {c : Cod} {l : List (List (List UInt8))} (hc : codB c = true) (hl : l.length ≤ 3) (hcp : ∀ g ∈ l, copB c g = true) {m : List Int} : m ∈ msgs c l ↔ msgB c m = true ∧ ∀ g ∈ l, canB c m g = true := by
  have hcb := cod_bd hc
  unfold msgs
  rw [mem_sortL, srch_mem c l 24 0 0 0 (0, 0, 0) _ m (by omega) (by omega) (by omega) (by unfold fuelS; omega) (by simp) (by simp [sumN]), stp_grid hcb.1, seqL_okS]
  have hpre : msgB c m = true → preL m 0 0 = List.replicate c.fields.length 0 := fun hm => by
    rw [preL_00 (msg_bd hc hm), msg_len hm]
  have hone : ∀ i, msgB c m = true → (i < l.length → okS c l m i (grid c.fields.length) 0 = canB c m (l.getD i [])) := fun i hm hi => by
    rw [okS_iff hi _ _ (by omega)]
    have e : l.getD i [] = l[i] := by rw [List.getD_eq_getElem?_getD, List.getElem?_eq_getElem hi, Option.getD_some]
    rw [e, canB_grid hc hm (hcp _ (List.getElem_mem hi))]
  constructor
  · rintro ⟨hm, _, h⟩
    refine ⟨hm, fun g hg => ?_⟩
    obtain ⟨i, hi, rfl⟩ := List.mem_iff_getElem.1 hg
    simp only [Bool.and_eq_true] at h
    have e : l.getD i [] = l[i] := by rw [List.getD_eq_getElem?_getD, List.getElem?_eq_getElem hi, Option.getD_some]
    rw [← e, ← hone i hm hi]
    have : i = 0 ∨ i = 1 ∨ i = 2 := by omega
    rcases this with rfl | rfl | rfl
    · exact h.1
    · exact h.2.1
    · exact h.2.2
  · rintro ⟨hm, h⟩
    refine ⟨hm, hpre hm, ?_⟩
    have key : ∀ i, okS c l m i (grid c.fields.length) 0 = true := fun i => by
      by_cases hi : i < l.length
      · rw [hone i hm hi]
        have e : l.getD i [] = l[i] := by rw [List.getD_eq_getElem?_getD, List.getElem?_eq_getElem hi, Option.getD_some]
        rw [e]; exact h _ (List.getElem_mem hi)
      · exact okS_big (by omega) _ _
    simp only [key, Bool.and_self]
end Go.Av
end

section
namespace Go.Av
open Go.Proofs
set_option linter.unusedSimpArgs false

def sumL (ds : List Int) : Int := ds.foldr (fun x s => x + s) 0
def colD (ds : List Int) (j : Nat) : Int := if h : j < ds.length then ds[j] else sumL ds % 10
def decK (k n : Nat) : List Int := (List.range k).map fun i => (n : Int) / (10 ^ (k - 1 - i) : Nat) % 10
def colG (g : List (List UInt8)) (place : Nat) (ds : List Int) : Int := sumR (ds.length + 1) (fun j => wrN (chF g j place, colD ds j))
def colO (c : Cod) (g : List (List UInt8)) (place : Nat) (ds : List Int) : Bool := (List.range (ds.length + 1)).all fun j => okP c (chF g j place, colD ds j)
def colF (c : Cod) (l : List (List (List UInt8))) (place : Nat) (ds : List Int) : Bool := l.all fun g => colO c g place ds && decide (colG g place ds ≤ c.most)
def colW (l : List (List (List UInt8))) (place : Nat) (ds : List Int) : List Int := l.map fun g => colG g place ds
def colR (c : Cod) (l : List (List (List UInt8))) (place : Nat) : List (List Int × List Int) :=
  (((List.range (10 ^ c.fields.length)).filter fun n => colF c l place (decK c.fields.length n)).map fun n => (decK c.fields.length n, colW l place (decK c.fields.length n)))
def jnR (a b : List Int) : List Int := List.zipWith (fun x y => 10 * x + y) a b
def jnW (a b : List Int) : List Int := List.zipWith (fun x y => x + y) a b
def jn (c : Cod) (a b : List Int × List Int) : Option (List Int × List Int) := if (jnW a.2 b.2).all (fun x => decide (x ≤ c.most)) then some (jnR a.1 b.1, jnW a.2 b.2) else none
def fin (c : Cod) (l : List (List (List UInt8))) : Nat → List Int × List Int → List (List Int)
  | 0, a => if msgB c a.1 then [a.1] else []
  | n + 1, a => (colR c l (4 - n)).flatMap fun b => match jn c a b with
    | some x => fin c l n x
    | none => []
end Go.Av
end

section
namespace Go.Av
open Go.Proofs
set_option linter.unusedSimpArgs false

def nowOK (place a : Nat) (now : List Int) : Prop := ∀ j (h : j < now.length), 0 ≤ now[j] ∧ now[j] < 10 ^ (if j < a then place + 1 else place)
theorem nowOK_at {place a : Nat} {now : List Int} (h : nowOK place a now) (ha : a < now.length) (hp : place < 5) : 0 ≤ now[a] ∧ now[a] ≤ 9999 := by
  have := h a ha
  rw [if_neg (by omega)] at this
  have hq : place = 0 ∨ place = 1 ∨ place = 2 ∨ place = 3 ∨ place = 4 := by omega
  rcases hq with rfl | rfl | rfl | rfl | rfl <;> (simp at this; omega)
theorem nowOK_step {place a : Nat} {now : List Int} (h : nowOK place a now) (ha : a < now.length) {f : Int} (hf : 0 ≤ f ∧ f ≤ 9) : nowOK place (a + 1) (now.set a (10 * now[a] + f)) := by
  intro j hj
  have hj' : j < now.length := by simpa using hj
  have h1 := h j hj'
  rw [List.getElem_set]
  by_cases e : a = j
  · subst e
    rw [if_neg (by omega)] at h1
    rw [if_pos rfl, if_pos (by omega), Int.pow_succ]
    omega
  · rw [if_neg e]
    by_cases h2 : j < a
    · rw [if_pos h2] at h1; rw [if_pos (by omega)]; exact h1
    · rw [if_neg h2] at h1; rw [if_neg (by omega)]; exact h1
theorem nowOK_full {place a : Nat} {now : List Int} (h : nowOK place a now) (ha : now.length ≤ a) : nowOK (place + 1) 0 now := by
  intro j hj
  have := h j hj
  rw [if_pos (by omega)] at this
  rw [if_neg (by omega)]; exact this
theorem nowOK_0 (k : Nat) : nowOK 0 0 (List.replicate k 0) := by
  intro j hj
  simp
def cntOK (n : Int × Int × Int) : Prop := (0 ≤ n.1 ∧ n.1 ≤ 2) ∧ (0 ≤ n.2.1 ∧ n.2.1 ≤ 2) ∧ 0 ≤ n.2.2 ∧ n.2.2 ≤ 2
theorem okQ_le {c : Cod} {l : List (List (List UInt8))} {a place : Nat} {f : Int} {i : Nat} {n : Int} (hc : codB c = true) (h : okQ c l a place f i n = true) (hn : 0 ≤ n ∧ n ≤ 2) : 0 ≤ n + wP l a place f i ∧ n + wP l a place f i ≤ 2 := by
  have hb := wP_bd l a place f i
  have hcb := cod_bd hc
  by_cases hi : i < l.length
  · unfold okQ at h
    rw [dif_pos hi, Bool.and_eq_true, decide_eq_true_eq] at h
    have e : wP l a place f i = wrN (chF l[i] a place, f) := by unfold wP; rw [dif_pos hi]
    have h2 := h.2
    rw [← e] at h2
    omega
  · rw [wP_big (by omega)]; omega
theorem cnt_step {c : Cod} {l : List (List (List UInt8))} {a place : Nat} {f : Int} {n : Int × Int × Int} (hc : codB c = true) (h : plOk c l a place f n = true) (hn : cntOK n) : cntOK (plN l a place f n) := by
  simp only [plOk, Bool.and_eq_true] at h
  exact ⟨okQ_le hc h.1 hn.1, okQ_le hc h.2.1 hn.2.1, okQ_le hc h.2.2 hn.2.2⟩
theorem sumN_bd (now : List Int) : ∀ a : Nat, 0 ≤ sumN now a ∧ sumN now a ≤ 9 * a := by
  intro a
  have key : ∀ (l : List Int) (t : Int), t ≤ l.foldl (fun s x => s + x % 10) t ∧ l.foldl (fun s x => s + x % 10) t ≤ t + 9 * l.length := by
    intro l
    induction l with
    | nil => intro t; simp
    | cons x l ih =>
      intro t
      have := ih (t + x % 10)
      simp only [List.foldl_cons, List.length_cons]
      omega
  have h := key (now.take a) 0
  have : ((now.take a).length : Int) ≤ a := by simp; omega
  unfold sumN; omega

def Bd (k : Nat) (g : List (List UInt8)) : List (Nat × Nat) → Nat → Nat
  | [], _ => 1
  | s :: r, b => if s.2 = k then Bd k g r b else if chF g s.2 s.1 = 63 then 10 * Bd k g r b else Bd k g r b + 9 * (match b with
    | 0 => 0
    | b' + 1 => Bd k g r b')
theorem Bd_mono (k : Nat) (g : List (List UInt8)) : ∀ (S : List (Nat × Nat)) (b : Nat), Bd k g S b ≤ Bd k g S (b + 1)
  | [], _ => Nat.le_refl _
  | s :: r, b => by
    have h1 := Bd_mono k g r b
    simp only [Bd]
    split
    · exact h1
    · split
      · omega
      · cases b with
        | zero => simp only; omega
        | succ b =>
          have h2 := Bd_mono k g r b
          simp only; omega
theorem Bd_le (k : Nat) (g : List (List UInt8)) (S : List (Nat × Nat)) {b b' : Nat} (h : b ≤ b') : Bd k g S b ≤ Bd k g S b' := by
  induction h with
  | refl => exact Nat.le_refl _
  | step _ ih => exact Nat.le_trans ih (Bd_mono ..)
def holS (g : List (List UInt8)) (S : List (Nat × Nat)) : Nat := (S.filter fun s => chF g s.2 s.1 == 63).length
theorem Bd_num (k : Nat) (g : List (List UInt8)) : ∀ (S : List (Nat × Nat)), Bd k g S 0 ≤ 10 ^ holS g S ∧ Bd k g S 1 ≤ 10 ^ holS g S * (1 + 9 * S.length) ∧ Bd k g S 2 ≤ 10 ^ holS g S * ((1 + 9 * S.length) * (1 + 9 * S.length))
  | [] => by simp [Bd, holS]
  | s :: r => by
    obtain ⟨h0, h1, h2⟩ := Bd_num k g r
    have hH : holS g (s :: r) = if chF g s.2 s.1 = 63 then holS g r + 1 else holS g r := by
      unfold holS
      rw [List.filter_cons]
      by_cases e : chF g s.2 s.1 = 63 <;> simp [e]
    rw [hH]
    simp only [Bd, List.length_cons]
    generalize hy : 1 + 9 * r.length = y at *
    have hy2 : 1 + 9 * (r.length + 1) = y + 9 := by omega
    rw [hy2]
    have hm : ∀ x : Nat, x * ((y + 9) * (y + 9)) = x * (y * y) + 18 * (x * y) + 81 * x := fun x => by
      have e1 : (y + 9) * (y + 9) = y * y + 18 * y + 81 := by rw [Nat.add_mul, Nat.mul_add]; omega
      have e2 : x * (18 * y) = 18 * (x * y) := Nat.mul_left_comm ..
      rw [e1, Nat.mul_add, Nat.mul_add, e2]
      omega
    have hm1 : ∀ x : Nat, x * (y + 9) = x * y + 9 * x := fun x => by rw [Nat.mul_add]; omega
    by_cases e : chF g s.2 s.1 = 63
    · simp only [e, if_true]
      have hp : 10 ^ (holS g r + 1) = 10 * 10 ^ holS g r := by rw [Nat.pow_succ]; omega
      rw [hp, hm, hm1]
      generalize 10 ^ holS g r = x at *
      have e1 : 10 * x * y = 10 * (x * y) := Nat.mul_assoc ..
      have e2 : 10 * x * (y * y) = 10 * (x * (y * y)) := Nat.mul_assoc ..
      rw [e1, e2]
      by_cases ek : s.2 = k
      · simp only [ek, if_true]; omega
      · simp only [ek, if_false]; omega
    · simp only [e, if_false]
      rw [hm, hm1]
      generalize 10 ^ holS g r = x at *
      by_cases ek : s.2 = k
      · simp only [ek, if_true]; omega
      · simp only [ek, if_false]; omega
theorem srch_len (c : Cod) (hc : codB c = true) (l : List (List (List UInt8))) (hl : 0 < l.length) : ∀ (fu place a : Nat) (sum : Int) (n : Int × Int × Int) (now : List Int), n.1 ≤ c.most →
    (srch c l fu place a sum n now).length ≤ Bd c.fields.length l[0] (stp c.fields.length fu place a) (c.most - n.1).toNat := by
  intro fu
  induction fu with
  | zero => intro place a sum n now _; simp [srch]
  | succ fu ih =>
    intro place a sum n now hn
    simp only [srch, stp]
    have hstep : ∀ f : Int, plOk c l a place f n = true → (plN l a place f n).1 ≤ c.most ∧ n.1 ≤ (plN l a place f n).1 ∧ (rgt (chF l[0] a place) f = false → (plN l a place f n).1 = n.1 + 1) := fun f h => by
      simp only [plOk, Bool.and_eq_true] at h
      have h0 := h.1
      unfold okQ at h0
      rw [dif_pos hl, Bool.and_eq_true, decide_eq_true_eq] at h0
      have hb := wP_bd l a place f 0
      have e : wP l a place f 0 = wrN (chF l[0] a place, f) := by unfold wP; rw [dif_pos hl]
      have e2 : (plN l a place f n).1 = n.1 + wP l a place f 0 := rfl
      have h02 := h0.2
      rw [← e] at h02
      rw [e2]
      refine ⟨h02, by omega, fun hr => ?_⟩
      rw [e]
      unfold wrN; simp only [hr, Bool.false_eq_true, if_false]
    split
    · split <;> simp [Bd]
    · split
      · rename_i ea
        simp only [Bd]
        rw [if_pos ea]
        split
        · rename_i hb
          obtain ⟨h1, h2, _⟩ := hstep _ hb
          have h4 : (c.most - (plN l a place (sum % 10) n).1).toNat ≤ (c.most - n.1).toNat := by omega
          exact Nat.le_trans (ih _ _ _ _ _ h1) (Bd_le _ _ _ h4)
        · exact Nat.zero_le _
      · rename_i ea
        simp only [Bd]
        rw [if_neg ea, List.length_flatMap]
        -- each figure's share
        have hsh : ∀ f : Nat, plOk c l a place (f : Int) n = true → (srch c l fu place (a + 1) (sum + (f : Int)) (plN l a place (f : Int) n) (now.set a (10 * now.getD a 0 + (f : Int)))).length ≤ Bd c.fields.length l[0] (stp c.fields.length fu place (a + 1)) (c.most - n.1).toNat := fun f hf => by
          obtain ⟨h1, h2, _⟩ := hstep _ hf
          have h4 : (c.most - (plN l a place (f : Int) n).1).toNat ≤ (c.most - n.1).toNat := by omega
          exact Nat.le_trans (ih _ _ _ _ _ h1) (Bd_le _ _ _ h4)
        have hsh2 : ∀ f : Nat, plOk c l a place (f : Int) n = true → rgt (chF l[0] a place) (f : Int) = false → (srch c l fu place (a + 1) (sum + (f : Int)) (plN l a place (f : Int) n) (now.set a (10 * now.getD a 0 + (f : Int)))).length ≤ (match (c.most - n.1).toNat with | 0 => 0 | b' + 1 => Bd c.fields.length l[0] (stp c.fields.length fu place (a + 1)) b') := fun f hf hr => by
          obtain ⟨h1, h2, h3⟩ := hstep _ hf
          have h3 := h3 hr
          have := ih place (a + 1) (sum + (f : Int)) _ (now.set a (10 * now.getD a 0 + (f : Int))) h1
          rw [h3] at this
          cases hb : (c.most - n.1).toNat with
          | zero => omega
          | succ b =>
            have e : (c.most - (n.1 + 1)).toNat = b := by omega
            rw [e] at this
            exact this
        generalize hB : Bd c.fields.length l[0] (stp c.fields.length fu place (a + 1)) (c.most - n.1).toNat = B at *
        generalize hD : (match (c.most - n.1).toNat with | 0 => 0 | b' + 1 => Bd c.fields.length l[0] (stp c.fields.length fu place (a + 1)) b') = D at *
        generalize hF : (fun (f : Nat) => (srch c l fu place (a + 1) (sum + (f : Int)) (plN l a place (f : Int) n) (now.set a (10 * now.getD a 0 + (f : Int)))).length) = F at *
        have hF1 : ∀ f : Nat, plOk c l a place (f : Int) n = true → F f ≤ B := fun f hf => by rw [← hF]; exact hsh f hf
        have hF2 : ∀ f : Nat, plOk c l a place (f : Int) n = true → rgt (chF l[0] a place) (f : Int) = false → F f ≤ D := fun f hf hr => by rw [← hF]; exact hsh2 f hf hr
        unfold canL
        have hsum : ∀ (p : Nat → Bool) (G : Nat → Nat), (∀ f, p f = true → F f ≤ G f) → (((List.range 10).filter p).map F).sum ≤ ((List.range 10).map G).sum := fun p G h => by
          have : ∀ L : List Nat, ((L.filter p).map F).sum ≤ (L.map G).sum := fun L => by
            induction L with
            | nil => simp
            | cons x L ih =>
              rw [List.filter_cons]
              cases hx : p x with
              | true =>
                have := h x hx
                simp only [if_true, List.map_cons, List.sum_cons]; omega
              | false =>
                simp only [Bool.false_eq_true, if_false, List.map_cons, List.sum_cons]; omega
          exact this _
        split
        · refine Nat.le_trans (hsum _ (fun _ => B) hF1) ?_
          simp [List.range_succ]; omega
        · rename_i h63
          refine Nat.le_trans (hsum _ (fun f => if rgt (chF l[0] a place) (f : Int) = true then B else D) (fun f hf => ?_)) ?_
          · split
            · exact hF1 f hf
            · rename_i hr
              exact hF2 f hf (by simpa using hr)
          · have hr : ∀ f : Nat, rgt (chF l[0] a place) (f : Int) = true ↔ chF l[0] a place - 48 = (f : Int) := fun f => by
              unfold rgt; simp [h63]
            simp only [hr]
            have : List.range 10 = [0, 1, 2, 3, 4, 5, 6, 7, 8, 9] := rfl
            rw [this]
            simp only [List.map_cons, List.map_nil, List.sum_cons, List.sum_nil]
            generalize chF l[0] a place - 48 = x
            by_cases h0 : x = ((0 : Nat) : Int)
            · subst h0; simp; omega
            by_cases h1 : x = ((1 : Nat) : Int)
            · subst h1; simp; omega
            by_cases h2 : x = ((2 : Nat) : Int)
            · subst h2; simp; omega
            by_cases h3 : x = ((3 : Nat) : Int)
            · subst h3; simp; omega
            by_cases h4 : x = ((4 : Nat) : Int)
            · subst h4; simp; omega
            by_cases h5 : x = ((5 : Nat) : Int)
            · subst h5; simp; omega
            by_cases h6 : x = ((6 : Nat) : Int)
            · subst h6; simp; omega
            by_cases h7 : x = ((7 : Nat) : Int)
            · subst h7; simp; omega
            by_cases h8 : x = ((8 : Nat) : Int)
            · subst h8; simp; omega
            by_cases h9 : x = ((9 : Nat) : Int)
            · subst h9; simp; omega
            rw [if_neg h0, if_neg h1, if_neg h2, if_neg h3, if_neg h4, if_neg h5, if_neg h6, if_neg h7, if_neg h8, if_neg h9]
            -- no figure is right: ten shares of what is left
            have hDB : D ≤ B := by
              rw [← hD, ← hB]
              cases (c.most - n.1).toNat with
              | zero => exact Nat.zero_le _
              | succ b => exact Bd_mono ..
            omega
theorem hol_grid {c : Cod} {g : List (List UInt8)} (hc : codB c = true) (hg : copB c g = true) : holS g (grid c.fields.length) ≤ 2 := by
  have hcb := cod_bd hc
  have hcp := cop_at hg
  have hle : hlN g ≤ 2 := by simp only [copB, Bool.and_eq_true, decide_eq_true_eq] at hg; exact hg.2.2
  have h1 : ∀ k, k ≤ g.length → hlN (g.take k) = sumR k (fun j => sumR 5 (fun q => if chF g j q = 63 then 1 else 0)) := fun k => by
    induction k with
    | zero => intro _; simp [hlN, sumR]
    | succ k ih =>
      intro hk
      have hkl : k < g.length := by omega
      rw [hlN_step hkl, ih (by omega)]
      simp only [sumR]
      have h5 := ofB_len (hcp.2 _ (List.getElem_mem hkl))
      have e1 : g.getD k [] = g[k] := by rw [List.getD_eq_getElem?_getD, List.getElem?_eq_getElem hkl, Option.getD_some]
      have h2 : ∀ q, q ≤ 5 → hl1 (g[k].take q) = sumR q (fun q => if chF g k q = 63 then 1 else 0) := fun q => by
        induction q with
        | zero => intro _; simp [hl1, sumR]
        | succ q ih =>
          intro hq
          have hql : q < g[k].length := by omega
          rw [hl1_step hql, ih (by omega)]
          simp only [sumR]
          have e2 : chF g k q = (g[k][q].toNat : Int) := by
            unfold chF
            rw [e1, List.getD_eq_getElem?_getD, List.getElem?_eq_getElem hql, Option.getD_some]
          rw [e2]
          congr 1
          by_cases e : g[k][q].toNat = 63
          · rw [if_pos e, if_pos (by omega)]
          · rw [if_neg e, if_neg (by omega)]
      have := h2 5 (by omega)
      rw [List.take_of_length_le (by omega)] at this
      rw [this]
      rfl
  have h2 := h1 g.length (Nat.le_refl _)
  rw [List.take_of_length_le (Nat.le_refl _)] at h2
  have hgl : g.length = c.fields.length + 1 := by omega
  rw [h2, hgl] at hle
  have key : ∀ (S : List (Nat × Nat)), (holS g S : Int) = S.foldr (fun s t => (if chF g s.2 s.1 = 63 then (1 : Int) else 0) + t) 0 := fun S => by
    induction S with
    | nil => rfl
    | cons s S ih =>
      simp only [List.foldr_cons, ← ih]
      unfold holS
      rw [List.filter_cons]
      by_cases e : chF g s.2 s.1 = 63
      · simp [e]; omega
      · simp [e]
  have : (holS g (grid c.fields.length) : Int) ≤ 2 := by
    rw [key]
    have hk : c.fields.length = 1 ∨ c.fields.length = 2 ∨ c.fields.length = 3 := by omega
    rcases hk with hk | hk | hk
    · rw [hk] at hle ⊢
      show List.foldr _ _ [(0,0),(0,1),(1,0),(1,1),(2,0),(2,1),(3,0),(3,1),(4,0),(4,1)] ≤ _
      simp only [sumR, List.foldr_cons, List.foldr_nil] at hle ⊢; omega
    · rw [hk] at hle ⊢
      show List.foldr _ _ [(0,0),(0,1),(0,2),(1,0),(1,1),(1,2),(2,0),(2,1),(2,2),(3,0),(3,1),(3,2),(4,0),(4,1),(4,2)] ≤ _
      simp only [sumR, List.foldr_cons, List.foldr_nil] at hle ⊢; omega
    · rw [hk] at hle ⊢
      show List.foldr _ _ [(0,0),(0,1),(0,2),(0,3),(1,0),(1,1),(1,2),(1,3),(2,0),(2,1),(2,2),(2,3),(3,0),(3,1),(3,2),(3,3),(4,0),(4,1),(4,2),(4,3)] ≤ _
      simp only [sumR, List.foldr_cons, List.foldr_nil] at hle ⊢; omega
  omega
theorem srch_few {c : Cod} {l : List (List (List UInt8))} (hc : codB c = true) (hl : 0 < l.length) (hcp : ∀ g ∈ l, copB c g = true) : (srch c l 24 0 0 0 (0, 0, 0) (List.replicate c.fields.length 0)).length ≤ 4000000 := by
  have hcb := cod_bd hc
  have h1 := srch_len c hc l hl 24 0 0 0 (0, 0, 0) (List.replicate c.fields.length 0) (by omega)
  rw [stp_grid hcb.1] at h1
  have h2 := hol_grid hc (hcp _ (List.getElem_mem hl))
  have h3 := Bd_le c.fields.length l[0] (grid c.fields.length) (b := (c.most - 0).toNat) (b' := 2) (by omega)
  have h4 := (Bd_num c.fields.length l[0] (grid c.fields.length)).2.2
  have h5 : (grid c.fields.length).length ≤ 20 := by
    have hk : c.fields.length = 1 ∨ c.fields.length = 2 ∨ c.fields.length = 3 := by omega
    rcases hk with hk | hk | hk <;> (rw [hk]; decide)
  have h6 : 10 ^ holS l[0] (grid c.fields.length) ≤ 10 ^ 2 := Nat.pow_le_pow_right (by omega) h2
  have h7 : (1 + 9 * (grid c.fields.length).length) * (1 + 9 * (grid c.fields.length).length) ≤ 181 * 181 := Nat.mul_le_mul (by omega) (by omega)
  have h8 := Nat.mul_le_mul h6 h7
  exact Nat.le_trans h1 (Nat.le_trans h3 (Nat.le_trans h4 (Nat.le_trans h8 (by decide))))
end Go.Av
end
