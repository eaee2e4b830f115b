/- What the check group restores: pure laws. · What the check group restores: which messages are left. -/
import Derived.Test.YtaphehlgijlfeaaGreatDoorWiO
import Derived.Test.YtaphehlgijlfeaaGreatDoorWiP
set_option linter.unusedVariables false
set_option linter.unusedSimpArgs false
section
namespace Go.Av
open Go.Proofs
set_option linter.unusedSimpArgs false
/-- A group of which one figure cannot be read, or is another character. -/
def putW (w : List UInt8) (p : Nat) (b : UInt8) : List UInt8 := w.take p ++ [b] ++ w.drop (p + 1)
theorem putW_len {w : List UInt8} {p : Nat} {b : UInt8} (h : p < w.length) : (putW w p b).length = w.length := by simp [putW]; omega
theorem putW_at {w : List UInt8} {p q : Nat} {b : UInt8} (h : p < w.length) : (putW w p b).getD q 0 = if q = p then b else w.getD q 0 := by
  unfold putW
  simp only [List.getD_eq_getElem?_getD]
  by_cases h1 : q < p
  · rw [List.append_assoc, List.getElem?_append_left (by simp; omega), if_neg (by omega), List.getElem?_take, if_pos h1]
  · rw [List.append_assoc, List.getElem?_append_right (by simp; omega)]
    have e : (w.take p).length = p := by simp; omega
    rw [e]
    by_cases h2 : q = p
    · subst h2; simp
    · rw [if_neg h2, List.getElem?_append_right (by simp; omega)]
      simp only [List.length_singleton, List.getElem?_drop]
      rw [show p + 1 + (q - p - 1) = q by omega]
def putL (l : List (List UInt8)) (o p : Nat) (b : UInt8) : List (List UInt8) := l.set o (putW (l.getD o []) p b)
def holL (m : List Int) (o a o2 t : Nat) : List (List UInt8) := putL (putL (grpsS m) o a 63) o2 t 63
theorem chF_put {l : List (List UInt8)} {o p j q : Nat} {b : UInt8} (ho : o < l.length) (hp : p < (l.getD o []).length) : chF (putL l o p b) j q = if j = o ∧ q = p then (b.toNat : Int) else chF l j q := by
  unfold chF putL
  by_cases hj : j = o
  · subst hj
    have e : (l.set j (putW (l.getD j []) p b)).getD j [] = putW (l.getD j []) p b := by simp [ho]
    rw [e, putW_at hp]
    by_cases hq : q = p
    · simp [hq]
    · rw [if_neg hq, if_neg (fun h => hq h.2)]
  · have e : (l.set o (putW (l.getD o []) p b)).getD j [] = l.getD j [] := by
      simp only [List.getD_eq_getElem?_getD]
      rw [List.getElem?_set_ne (by omega)]
    rw [e, if_neg (fun h => hj h.1)]
theorem putL_len {l : List (List UInt8)} {o p : Nat} {b : UInt8} : (putL l o p b).length = l.length := by simp [putL]
theorem putL_5 {l : List (List UInt8)} {o p : Nat} {b : UInt8} (ho : o < l.length) (hp : p < 5) (h : ∀ w ∈ l, w.length = 5) : ∀ w ∈ putL l o p b, w.length = 5 := fun w hw => by
  rcases List.mem_or_eq_of_mem_set hw with h1 | h1
  · exact h w h1
  · have e : (l.getD o []).length = 5 := by
      rw [List.getD_eq_getElem?_getD, List.getElem?_eq_getElem ho]; exact h _ (List.getElem_mem ho)
    rw [h1, putW_len (by omega), e]
theorem grpsS_5 (m : List Int) : ∀ w ∈ grpsS m, w.length = 5 := fun w hw => by
  obtain ⟨g, _, rfl⟩ := List.mem_map.1 hw; rfl
theorem getD_5 {l : List (List UInt8)} {o : Nat} (ho : o < l.length) (h : ∀ w ∈ l, w.length = 5) : (l.getD o []).length = 5 := by
  rw [List.getD_eq_getElem?_getD, List.getElem?_eq_getElem ho]; exact h _ (List.getElem_mem ho)
theorem chF_grps {m : List Int} {j q : Nat} (hj : j ≤ m.length) (hq : q < 5) : chF (grpsS m) j q = 48 + dg m q j := by
  have hl : j < (grps m).length := by simp [grps]; omega
  unfold chF
  have e : (grpsS m).getD j [] = ((grps m)[j]).chs := by
    simp only [grpsS, List.getD_eq_getElem?_getD, List.getElem?_map, List.getElem?_eq_getElem hl]; rfl
  rw [e, List.getD_eq_getElem?_getD, chs_at hq, Option.getD_some, figA_grps hl hq]
  exact chD_nat (dg_bd m q j)
theorem grpsS_n (m : List Int) : (grpsS m).length = m.length + 1 := by simp [grpsS, grps]
/-- A copy by its characters. -/
theorem copB_of {c : Cod} {l : List (List UInt8)} (h1 : l.length = c.fields.length + 1) (h5 : ∀ w ∈ l, w.length = 5) (hch : ∀ j q, j < l.length → q < 5 → copR (chF l j q) = true) (hh : hlN l ≤ 2) : copB c l = true := by
  unfold copB
  simp only [Bool.and_eq_true, List.all_eq_true, decide_eq_true_eq, beq_iff_eq]
  refine ⟨fun w hw => ?_, by omega, hh⟩
  obtain ⟨j, hj, rfl⟩ := List.getElem_of_mem hw
  unfold ofB
  simp only [Bool.and_eq_true, List.all_eq_true, decide_eq_true_eq]
  refine ⟨fun b hb => ?_, h5 _ hw⟩
  obtain ⟨q, hq, rfl⟩ := List.getElem_of_mem hb
  have hq5 : q < 5 := by have := h5 _ hw; omega
  have := hch j q hj hq5
  have e : chF l j q = (l[j][q].toNat : Int) := by
    unfold chF
    simp [hj, hq]
  rwa [e] at this
/-- The holes of a list of groups, one group more. -/
theorem hl1_put {w : List UInt8} {p : Nat} {b : UInt8} : hl1 (putW w p b) ≤ hl1 w + (if b.toNat = 63 then 1 else 0) := by
  have app : ∀ (x y : List UInt8), hl1 (x ++ y) = hl1 x + hl1 y := fun x y => by
    have key : ∀ (y : List UInt8) (t : Int), y.foldl (fun s b => s + if b.toNat = 63 then 1 else 0) t = t + hl1 y := by
      intro y
      induction y with
      | nil => intro t; simp [hl1]
      | cons a y ih => intro t; unfold hl1; simp only [List.foldl_cons]; rw [ih, ih]; omega
    unfold hl1; rw [List.foldl_append, key]; rfl
  unfold putW
  rw [app, app]
  have h0 : hl1 w = hl1 (w.take p) + hl1 (w.drop p) := by rw [← app, List.take_append_drop]
  have h1 : hl1 [b] = if b.toNat = 63 then 1 else 0 := by simp [hl1]
  have h2 : hl1 (w.drop (p + 1)) ≤ hl1 (w.drop p) := by
    cases hd : w.drop p with
    | nil =>
      have : w.drop (p + 1) = [] := by rw [← List.drop_drop, hd]; rfl
      rw [this]; exact Int.le_refl _
    | cons a t =>
      have : w.drop (p + 1) = t := by rw [← List.drop_drop, hd]; rfl
      rw [this, show a :: t = [a] ++ t from rfl, app]
      have := (hl1_bd [a]).1
      omega
  rw [h1, h0]; omega
theorem hlN_app : ∀ (x y : List (List UInt8)), hlN (x ++ y) = hlN x + hlN y := fun x y => by
  have key : ∀ (y : List (List UInt8)) (t : Int), y.foldl (fun s w => s + hl1 w) t = t + hlN y := by
    intro y
    induction y with
    | nil => intro t; simp [hlN]
    | cons a y ih => intro t; unfold hlN; simp only [List.foldl_cons]; rw [ih, ih]; omega
  unfold hlN; rw [List.foldl_append, key]; rfl
theorem hlN_put {l : List (List UInt8)} {o p : Nat} {b : UInt8} (ho : o < l.length) : hlN (putL l o p b) ≤ hlN l + (if b.toNat = 63 then 1 else 0) := by
  have e : putL l o p b = l.take o ++ ([putW (l.getD o []) p b] ++ l.drop (o + 1)) := by
    unfold putL
    rw [List.set_eq_take_append_cons_drop, if_pos ho]; rfl
  have e2 : l = l.take o ++ ([l.getD o []] ++ l.drop (o + 1)) := by
    conv => lhs; rw [← List.take_append_drop o l]
    congr 1
    rw [List.drop_eq_getElem_cons ho]
    simp [ho]
  have one : ∀ w : List UInt8, hlN [w] = hl1 w := fun w => by simp [hlN]
  rw [e]
  conv => rhs; rw [e2]
  rw [hlN_app, hlN_app, hlN_app, hlN_app, one, one]
  have := hl1_put (w := l.getD o []) (p := p) (b := b)
  omega
theorem hl1_chs {g : G5} (h : g.ok) : hl1 g.chs = 0 := by
  unfold G5.ok at h
  have z : ∀ x : Int, 0 ≤ x ∧ x ≤ 9 → ¬ (chD x).toNat = 63 := fun x hx => by have := chD_nat hx; omega
  simp [G5.chs, hl1, z _ h.1, z _ h.2.1, z _ h.2.2.1, z _ h.2.2.2.1, z _ h.2.2.2.2]
theorem hlN_grps (m : List Int) : hlN (grpsS m) = 0 := by
  have key : ∀ l : List G5, (∀ g ∈ l, g.ok) → hlN (l.map G5.chs) = 0 := by
    intro l
    induction l with
    | nil => intro _; rfl
    | cons g l ih =>
      intro h
      rw [List.map_cons, show G5.chs g :: l.map G5.chs = [G5.chs g] ++ l.map G5.chs from rfl, hlN_app, ih (fun x hx => h x (List.mem_cons_of_mem _ hx))]
      simp [hlN, hl1_chs (h g (List.mem_cons_self ..))]
  exact key _ grps_ok
theorem copR_dg {m : List Int} {q j : Nat} : copR (48 + dg m q j) = true := by
  have := dg_bd m q j
  simp only [copR, figR, holR, Bool.or_eq_true, Bool.and_eq_true, decide_eq_true_eq]; omega
section
variable {c : Cod} {m : List Int} {o a o2 t : Nat} (hc : codB c = true) (hm : msgB c m = true) (ho : o ≤ m.length) (ha : a < 5) (ho2 : o2 ≤ m.length) (ht : t < 5)
include ho ha ho2 ht in
theorem chF_hol {j q : Nat} (hj : j ≤ m.length) (hq : q < 5) : chF (holL m o a o2 t) j q = if (j = o2 ∧ q = t) ∨ (j = o ∧ q = a) then 63 else 48 + dg m q j := by
  have l1 : o < (grpsS m).length := by rw [grpsS_n]; omega
  have l2 : o2 < (putL (grpsS m) o a 63).length := by rw [putL_len, grpsS_n]; omega
  unfold holL
  rw [chF_put l2 (by rw [getD_5 l2 (putL_5 l1 ha (grpsS_5 m))]; exact ht), chF_put l1 (by rw [getD_5 l1 (grpsS_5 m)]; exact ha), chF_grps hj hq]
  by_cases h1 : j = o2 ∧ q = t
  · rw [if_pos h1, if_pos (.inl h1)]; rfl
  · rw [if_neg h1]
    by_cases h2 : j = o ∧ q = a
    · rw [if_pos h2, if_pos (.inr h2)]; rfl
    · rw [if_neg h2, if_neg (fun h => h.elim h1 h2)]
include hm ho ha ho2 ht in
theorem hol_cop : copB c (holL m o a o2 t) = true := by
  have l1 : o < (grpsS m).length := by rw [grpsS_n]; omega
  have l2 : o2 < (putL (grpsS m) o a 63).length := by rw [putL_len, grpsS_n]; omega
  have hml := msg_len hm
  have hn : (holL m o a o2 t).length = m.length + 1 := by unfold holL; rw [putL_len, putL_len, grpsS_n]
  refine copB_of (by rw [hn, hml]) (putL_5 l2 ht (putL_5 l1 ha (grpsS_5 m))) (fun j q hj hq => ?_) ?_
  · rw [chF_hol ho ha ho2 ht (by omega) hq]
    by_cases h : (j = o2 ∧ q = t) ∨ (j = o ∧ q = a)
    · rw [if_pos h]; rfl
    · rw [if_neg h]; exact copR_dg
  · have e1 := hlN_put (p := t) (b := 63) l2
    have e2 := hlN_put (p := a) (b := 63) l1
    rw [hlN_grps] at e2
    have : (63 : UInt8).toNat = 63 := rfl
    rw [if_pos this] at e1 e2
    unfold holL; omega
end
end Go.Av
end

section
namespace Go.Av
open Go.Proofs
set_option linter.unusedSimpArgs false
theorem wrN_b1 (x : Int × Int) : 0 ≤ wrN x ∧ wrN x ≤ 1 := by unfold wrN; split <;> omega
theorem wsum_mem (m : List Int) (g : List (List UInt8)) : ∀ (S : List (Nat × Nat)) (s : Nat × Nat), s ∈ S → wrN (rcv m g s) ≤ wsum m g S := by
  intro S
  induction S with
  | nil => intro s h; cases h
  | cons x S ih =>
    intro s h
    have e : wsum m g (x :: S) = wrN (rcv m g x) + wsum m g S := rfl
    have h1 := wsum_bd m g S
    have h2 := wrN_b1 (rcv m g x)
    rw [e]
    rcases List.mem_cons.1 h with rfl | h
    · omega
    · have := ih s h; omega
theorem wsum_zero (m : List Int) (g : List (List UInt8)) : ∀ (S : List (Nat × Nat)), (∀ s ∈ S, wrN (rcv m g s) = 0) → wsum m g S = 0 := by
  intro S
  induction S with
  | nil => intro _; rfl
  | cons x S ih =>
    intro h
    have e : wsum m g (x :: S) = wrN (rcv m g x) + wsum m g S := rfl
    rw [e, h x (List.mem_cons_self ..), ih fun s hs => h s (List.mem_cons_of_mem _ hs)]; rfl
/-- No figure is wrong. -/
theorem can0_iff {c : Cod} {m : List Int} {g : List (List UInt8)} (hc : codB c = true) (hm : msgB c m = true) (hg : copB c g = true) : canB (mst c 0) m g = true ↔ ∀ s ∈ grid c.fields.length, rgt (chF g s.2 s.1) (dg m s.1 s.2) = true := by
  have hcb := cod_bd hc
  have e := canB_grid (c := mst c 0) (m := m) (g := g) (codB_mst hc (by omega) hcb.2.1) hm hg
  rw [← e]
  simp only [Bool.and_eq_true, decide_eq_true_eq, List.all_eq_true]
  constructor
  · rintro ⟨_, h2⟩ s hs
    have h3 := wsum_mem m g _ s hs
    have h4 : (mst c 0).most = 0 := rfl
    have h5 : wsum m g (grid c.fields.length) ≤ 0 := by rw [h4] at h2; have : (mst c 0).fields.length = c.fields.length := rfl; rw [this] at h2; omega
    cases hr : rgt (chF g s.2 s.1) (dg m s.1 s.2) with
    | true => rfl
    | false =>
      have : wrN (rcv m g s) = 1 := by unfold wrN rcv; simp only [hr]; rfl
      omega
  · intro h
    have z : ∀ s ∈ grid c.fields.length, wrN (rcv m g s) = 0 := fun s hs => by unfold wrN rcv; simp only [h s hs, if_true]
    refine ⟨fun s hs => by unfold okP rcv; rw [h s hs]; rfl, ?_⟩
    have := wsum_zero m g _ z
    have h4 : (mst c 0).most = 0 := rfl
    have h6 : (mst c 0).fields.length = c.fields.length := rfl
    rw [h4, h6, this]; omega
theorem sumL_set : ∀ {l : List Int} {j : Nat} (h : j < l.length) (x : Int), sumL (l.set j x) = sumL l + (x - l[j])
  | a :: l, 0, _, x => by simp only [List.set_cons_zero, List.getElem_cons_zero, sumL, List.foldr_cons]; omega
  | a :: l, j + 1, h, x => by
    have hj : j < l.length := by simpa using h
    have := sumL_set hj x
    simp only [List.set_cons_succ, List.getElem_cons_succ, sumL, List.foldr_cons] at this ⊢
    omega
theorem dvec_at {m : List Int} {q j : Nat} (h : j < m.length) : (dvec m q)[j]'(by rw [dvec_len]; exact h) = dig m[j] q := by simp [dvec]
/-- One figure of a column that is not known comes out of the others. -/
theorem col_eq {m m' : List Int} (hl : m.length = m'.length) {q j0 : Nat} (h : ∀ j, j ≤ m.length → j ≠ j0 → dg m q j = dg m' q j) : ∀ j (h1 : j < m.length), dig m[j] q = dig (m'[j]'(by omega)) q := by
  intro j hj
  by_cases e : j = j0
  · subst e
    have hck := h m.length (Nat.le_refl _) (by omega)
    rw [dg_ge (Nat.le_refl _), dg_ge (by omega), ← sumL_dvec, ← sumL_dvec] at hck
    have hd : dvec m q = (dvec m' q).set j (dig m[j] q) := by
      refine List.ext_getElem (by simp [dvec_len, hl]) fun i hi1 hi2 => ?_
      have hi : i < m.length := by rw [dvec_len] at hi1; exact hi1
      rw [dvec_at hi, List.getElem_set]
      by_cases hij : j = i
      · subst hij; rw [if_pos rfl]
      · rw [if_neg hij, dvec_at (by omega)]
        have := h i (by omega) (by omega)
        rwa [dg_lt hi, dg_lt (by omega)] at this
    rw [hd, sumL_set (by rw [dvec_len]; omega), dvec_at (by omega)] at hck
    have b1 := dig_bd (n := m[j]) q
    have b2 := dig_bd (n := m'[j]'(by omega)) q
    omega
  · have := h j (by omega) e
    rwa [dg_lt hj, dg_lt (by omega)] at this
theorem dig_inj {x y : Int} (hx : 0 ≤ x ∧ x ≤ 99999) (hy : 0 ≤ y ∧ y ≤ 99999) (h : ∀ q, q < 5 → dig x q = dig y q) : x = y := by
  have key : ∀ p, p ≤ 5 → pv x p = pv y p := fun p => by
    induction p with
    | zero => intro _; rw [pv0 hx, pv0 hy]
    | succ p ih => intro hp; rw [pv_step x (by omega), pv_step y (by omega), ih (by omega), h p (by omega)]
  have := key 5 (Nat.le_refl _)
  rwa [pv5, pv5] at this
theorem msg_99 {c : Cod} {m : List Int} (hc : codB c = true) (hm : msgB c m = true) : ∀ x ∈ m, 0 ≤ x ∧ x ≤ 99999 := fun x hx => by
  obtain ⟨j, hj, rfl⟩ := List.getElem_of_mem hx
  have hl := msg_len hm
  have hjf : j < c.fields.length := by omega
  unfold codB at hc
  simp only [Bool.and_eq_true, Bool.not_eq_true', List.any_eq_false] at hc
  have h1 := hc.1.2 c.fields[j] (List.getElem_mem hjf)
  unfold msgB eqF at hm
  simp only [Bool.and_eq_true, List.all_eq_true, decide_eq_true_eq] at hm
  have hz : (m.zip c.fields)[j]'(by simp; omega) = (m[j], c.fields[j]) := by simp
  have h2 := hm.2 (m[j], c.fields[j]) (by rw [← hz]; exact List.getElem_mem _)
  have h3 := inB_iff.1 h2
  simp only [badS, Bool.not_eq_true, Bool.or_eq_false_iff, decide_eq_false_iff_not] at h1
  simp only at h3
  omega
theorem uniq1 {c : Cod} {m m' : List Int} (hc : codB c = true) (hm : msgB c m = true) (hm' : msgB c m' = true) (h : ∀ q, q < 5 → ∃ j0, ∀ j, j ≤ m.length → j ≠ j0 → dg m q j = dg m' q j) : m = m' := by
  have hl : m.length = m'.length := by rw [msg_len hm, msg_len hm']
  refine List.ext_getElem hl fun j h1 h2 => ?_
  refine dig_inj (msg_99 hc hm _ (List.getElem_mem h1)) (msg_99 hc hm' _ (List.getElem_mem h2)) fun q hq => ?_
  obtain ⟨j0, hj⟩ := h q hq
  exact col_eq hl hj j h1
theorem nodup_below : ∀ (n : Nat) (l : List Nat), l.Nodup → (∀ x ∈ l, x < n) → l.length ≤ n := by
  intro n
  induction n with
  | zero => intro l _ h; cases l with
    | nil => simp
    | cons a l => exact absurd (h a (List.mem_cons_self ..)) (by omega)
  | succ n ih =>
    intro l hn h
    have h1 := ih (l.erase n) (hn.erase n) (fun x hx => by
      have hx2 := (List.Nodup.mem_erase_iff hn).1 hx
      have := h x hx2.2
      have := hx2.1
      omega)
    have h2 : l.length ≤ (l.erase n).length + 1 := by rw [List.length_erase]; split <;> omega
    omega
section
variable {c : Cod} {m : List Int} {o a o2 t : Nat} (hc : codB c = true) (hm : msgB c m = true) (ho : o ≤ m.length) (ha : a < 5) (ho2 : o2 ≤ m.length) (ht : t < 5)
include hc hm ho ha ho2 ht
theorem hol_mem {x : List Int} : x ∈ msgs (mst c 0) [holL m o a o2 t] ↔ msgB c x = true ∧ ∀ q j, q < 5 → j ≤ m.length → ¬ ((j = o2 ∧ q = t) ∨ (j = o ∧ q = a)) → dg m q j = dg x q j := by
  have hcb := cod_bd hc
  have hcp := hol_cop (c := c) hm ho ha ho2 ht
  rw [mem_msgs (codB_mst hc (by omega) hcb.2.1) (by simp) (by intro g hg; rw [List.mem_singleton] at hg; subst hg; exact hcp)]
  have hml := msg_len hm
  constructor
  · rintro ⟨h1, h2⟩
    have h1' : msgB c x = true := h1
    have h3 := (can0_iff hc h1' hcp).1 (h2 _ (List.mem_singleton.2 rfl))
    refine ⟨h1', fun q j hq hj hn => ?_⟩
    have h4 := h3 (q, j) (mem_grid.2 ⟨hq, by show j ≤ _; omega⟩)
    simp only at h4
    rw [chF_hol ho ha ho2 ht hj hq, if_neg hn] at h4
    have hb := dg_bd m q j
    simp only [rgt, Bool.or_eq_true, decide_eq_true_eq, beq_iff_eq] at h4
    omega
  · rintro ⟨h1, h2⟩
    refine ⟨h1, fun g hg => ?_⟩
    rw [List.mem_singleton] at hg; subst hg
    rw [can0_iff hc h1 hcp]
    intro s hs
    obtain ⟨hq, hj⟩ := mem_grid.1 hs
    rw [chF_hol ho ha ho2 ht (by omega) hq]
    by_cases hn : (s.2 = o2 ∧ s.1 = t) ∨ (s.2 = o ∧ s.1 = a)
    · rw [if_pos hn]; rfl
    · rw [if_neg hn, h2 s.1 s.2 hq (by omega) hn]
      simp only [rgt, Bool.or_eq_true, decide_eq_true_eq, beq_iff_eq]; omega
theorem hol_has : m ∈ msgs (mst c 0) [holL m o a o2 t] := (hol_mem hc hm ho ha ho2 ht).2 ⟨hm, fun _ _ _ _ _ => rfl⟩
theorem hol_one (h : a ≠ t ∨ o = o2) : (msgs (mst c 0) [holL m o a o2 t]).length = 1 := by
  have hcb := cod_bd hc
  have hn := msgs_nodup (mst c 0) (codB_mst hc (by omega) hcb.2.1) [holL m o a o2 t]
  have hh := hol_has hc hm ho ha ho2 ht
  have hall : ∀ x ∈ msgs (mst c 0) [holL m o a o2 t], x = m := fun x hx => by
    obtain ⟨h1, h2⟩ := (hol_mem hc hm ho ha ho2 ht).1 hx
    refine (uniq1 hc hm h1 fun q hq => ?_).symm
    by_cases hqa : q = a
    · refine ⟨o, fun j hj hjo => h2 q j hq hj ?_⟩
      rintro (⟨e1, e2⟩ | ⟨e1, e2⟩)
      · rcases h with h | h
        · exact h (by omega)
        · exact hjo (by omega)
      · exact hjo e1
    · refine ⟨o2, fun j hj hjo => h2 q j hq hj ?_⟩
      rintro (⟨e1, e2⟩ | ⟨e1, e2⟩)
      · exact hjo e1
      · exact hqa e2
  cases hL : msgs (mst c 0) [holL m o a o2 t] with
  | nil => rw [hL] at hh; cases hh
  | cons x L =>
    cases L with
    | nil => rfl
    | cons y L =>
      rw [hL] at hall hn
      have e1 := hall x (List.mem_cons_self ..)
      have e2 := hall y (List.mem_cons_of_mem _ (List.mem_cons_self ..))
      subst e1; subst e2
      simp at hn
theorem hol_ten : (msgs (mst c 0) [holL m o a o2 t]).length ≤ 10 := by
  have hcb := cod_bd hc
  have hn := msgs_nodup (mst c 0) (codB_mst hc (by omega) hcb.2.1) [holL m o a o2 t]
  have h1 := nodup_below 10 ((msgs (mst c 0) [holL m o a o2 t]).map fun x => (dg x a o).toNat) (by
    rw [List.Nodup, List.pairwise_map]
    refine List.Pairwise.imp_of_mem ?_ hn
    intro x y hx hy hxy e
    apply hxy
    obtain ⟨x1, x2⟩ := (hol_mem hc hm ho ha ho2 ht).1 hx
    obtain ⟨y1, y2⟩ := (hol_mem hc hm ho ha ho2 ht).1 hy
    have hxl : x.length = m.length := by rw [msg_len x1, msg_len hm]
    refine uniq1 hc x1 y1 fun q hq => ⟨o2, fun j hj hjo => ?_⟩
    by_cases hja : j = o ∧ q = a
    · have b1 := dg_bd x a o
      have b2 := dg_bd y a o
      rw [hja.1, hja.2]; omega
    · rw [← x2 q j hq (by omega) (by rintro (⟨e1, _⟩ | e1); exact hjo e1; exact hja e1), ← y2 q j hq (by omega) (by rintro (⟨e1, _⟩ | e1); exact hjo e1; exact hja e1)])
    (fun z hz => by obtain ⟨x, _, rfl⟩ := List.mem_map.1 hz; have := dg_bd x a o; omega)
  simpa using h1
end
theorem sumR_nn {n : Nat} {f : Nat → Int} (h : ∀ i, i < n → 0 ≤ f i) : 0 ≤ sumR n f := by
  induction n with
  | zero => exact Int.le_refl _
  | succ n ih => have h1 := ih fun i hi => h i (by omega); have h2 := h n (by omega); simp only [sumR]; omega
theorem sumR_one {n i0 : Nat} {f : Nat → Int} (h : ∀ i, i < n → i ≠ i0 → f i = 0) (h1 : f i0 ≤ 1) (h0 : 0 ≤ f i0) : sumR n f ≤ 1 ∧ (n ≤ i0 → sumR n f = 0) := by
  induction n with
  | zero => simp [sumR]
  | succ n ih =>
    have h2 := ih fun i hi => h i (by omega)
    simp only [sumR]
    by_cases e : n = i0
    · subst e
      have := h2.2 (Nat.le_refl _)
      exact ⟨by omega, fun h => by omega⟩
    · have := h n (by omega) e
      refine ⟨by omega, fun hn => ?_⟩
      have := h2.2 (by omega)
      omega
/-- One figure was received as another one. -/
theorem put_cop {c : Cod} {m : List Int} {o a s : Nat} (hm : msgB c m = true) (ho : o ≤ m.length) (ha : a < 5) (hs : s ≤ 9) : copB c (putL (grpsS m) o a (UInt8.ofNat (48 + s))) = true ∧ ∀ j q, j ≤ m.length → q < 5 → chF (putL (grpsS m) o a (UInt8.ofNat (48 + s))) j q = if j = o ∧ q = a then 48 + (s : Int) else 48 + dg m q j := by
  have l1 : o < (grpsS m).length := by rw [grpsS_n]; omega
  have hb : ((UInt8.ofNat (48 + s)).toNat : Int) = 48 + s := by
    have : (UInt8.ofNat (48 + s)).toNat = 48 + s := by simp [UInt8.toNat_ofNat]; omega
    omega
  have key : ∀ j q, j ≤ m.length → q < 5 → chF (putL (grpsS m) o a (UInt8.ofNat (48 + s))) j q = if j = o ∧ q = a then 48 + (s : Int) else 48 + dg m q j := fun j q hj hq => by
    rw [chF_put l1 (by rw [getD_5 l1 (grpsS_5 m)]; exact ha), chF_grps hj hq, hb]
  refine ⟨copB_of (by rw [putL_len, grpsS_n, msg_len hm]) (putL_5 l1 ha (grpsS_5 m)) (fun j q hj hq => ?_) ?_, key⟩
  · rw [putL_len, grpsS_n] at hj
    rw [key j q (by omega) hq]
    by_cases h : j = o ∧ q = a
    · rw [if_pos h]; simp only [copR, figR, holR, Bool.or_eq_true, Bool.and_eq_true, decide_eq_true_eq]; omega
    · rw [if_neg h]; exact copR_dg
  · have e2 := hlN_put (p := a) (b := UInt8.ofNat (48 + s)) l1
    rw [hlN_grps, if_neg (by omega)] at e2
    omega
theorem put_can {c : Cod} {m : List Int} {o a s : Nat} (hc : codB c = true) (hm : msgB c m = true) (ho : o ≤ m.length) (ha : a < 5) (hs : s ≤ 9) (h1 : 1 ≤ c.most) (hw : bitT (turnOf c (dg m a o)) s = true) : canB c m (putL (grpsS m) o a (UInt8.ofNat (48 + s))) = true := by
  obtain ⟨hcp, hch⟩ := put_cop hm ho ha hs
  have hml := msg_len hm
  have hcb := cod_bd hc
  rw [← canB_grid hc hm hcp]
  have hr : ∀ j q, j ≤ m.length → q < 5 → ¬ (j = o ∧ q = a) → rgt (chF (putL (grpsS m) o a (UInt8.ofNat (48 + s))) j q) (dg m q j) = true := fun j q hj hq hn => by
    rw [hch j q hj hq, if_neg hn]
    simp only [rgt, Bool.or_eq_true, decide_eq_true_eq, beq_iff_eq]; omega
  simp only [Bool.and_eq_true, List.all_eq_true, decide_eq_true_eq]
  refine ⟨fun x hx => ?_, ?_⟩
  · obtain ⟨hq, hj⟩ := mem_grid.1 hx
    unfold okP rcv
    by_cases h : x.2 = o ∧ x.1 = a
    · have : wrg c (chF (putL (grpsS m) o a (UInt8.ofNat (48 + s))) x.2 x.1) (dg m x.1 x.2) = true := by
        rw [hch _ _ (by omega) hq, if_pos h, h.1, h.2]
        unfold wrg
        rw [show ((48 + (s : Int)) - 48).toNat = s by omega]; exact hw
      simp only [this, Bool.or_true]
    · simp only [hr x.2 x.1 (by omega) hq h, Bool.true_or]
  · rw [wsum_grid hcb.1]
    have hz : ∀ q j, q < 5 → j ≤ m.length → ¬ (j = o ∧ q = a) → wrN (rcv m (putL (grpsS m) o a (UInt8.ofNat (48 + s))) (q, j)) = 0 := fun q j hq hj hn => by
      unfold wrN rcv; simp only [hr j q hj hq hn, if_true]
    have h2 := (sumR_one (n := 5) (i0 := a) (f := fun q => sumR (c.fields.length + 1) (fun j => wrN (rcv m (putL (grpsS m) o a (UInt8.ofNat (48 + s))) (q, j)))) (fun q hq hqa => by
        rw [← sumR_zero (c.fields.length + 1)]
        exact sumR_congr fun j hj => hz q j hq (by omega) (fun h => hqa h.2))
      ((sumR_one (n := c.fields.length + 1) (i0 := o) (fun j hj hjo => hz a j ha (by omega) (fun h => hjo h.1)) (wrN_b1 _).2 (wrN_b1 _).1).1) (sumR_nn fun j _ => (wrN_b1 _).1)).1
    omega
end Go.Av
end
