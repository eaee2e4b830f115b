
import Derived.Test.YtaphehlgijlfeaaGreatDoorWiJ
import Derived.Test.YtaphehlgijlfeaaGreatDoorWiC
import Derived.Test.YtaphehlgijlfeaaGreatDoorWiA
import Derived.Test.YtaphehlgijlfeaaGreatDoorPlatJ
import Derived.Test.YtaphehlgijlfeaaGreatDoorWiL
set_option linter.unusedVariables false
set_option linter.unusedSimpArgs false
section
namespace Go.Av
open Go.Proofs
set_option maxRecDepth 100000
end Go.Av
end
section
namespace Go.Av
def lnA (n : Nt) (i : Int) : Lin := n.lines.getD i.toNat ⟨0, 0, 0, 0⟩
def prc (n : Nt) : List Int -> Int
 | [] => 0
 | i :: l => (lnA n i).price + prc n l
def grb (n : Nt) : List Int -> Int
 | [] => 0
 | i :: l => (lnA n i).wrong + grb n l
theorem zwd (n : Nt) (i : Int) : ∀ l, prc n (l ++ [i]) = prc n l + (lnA n i).price
 | [] => by simp [prc]
 | j :: l => by rw [List.cons_append, prc, prc, zwd n i l]; omega
theorem zv5 (n : Nt) (i : Int) : ∀ l, grb n (l ++ [i]) = grb n l + (lnA n i).wrong
 | [] => by simp [grb]
 | j :: l => by rw [List.cons_append, grb, grb, zv5 n i l]; omega
theorem zAi (n : Nt) : ∀ l, prc n l.reverse = prc n l
 | [] => rfl
 | j :: l => by rw [List.reverse_cons, zwd, zAi n l, prc]; omega
theorem zz9 (n : Nt) : ∀ l, grb n l.reverse = grb n l
 | [] => rfl
 | j :: l => by rw [List.reverse_cons, zv5, zz9 n l, grb]; omega
def touch (x : Lin) (o : Int) : Bool := decide (x.src = o) || decide (x.dst = o)
def oth (x : Lin) (o : Int) : Int := x.src + x.dst - o
def zvO (n : Nt) (x : Lin) : Bool := decide (0 <= x.src /\ x.src <= n.offices - 1) && decide (0 <= x.dst /\ x.dst <= n.offices - 1) && decide (x.src ≠ x.dst) && decide (0 <= x.price /\ x.price <= 10000) && decide (0 <= x.wrong /\ x.wrong <= 9)
def zuA (n : Nt) : Bool := decide (1 <= n.offices /\ n.offices <= 6) && decide (n.lines.length <= 10) && n.lines.all (zvO n)
theorem zvY {n : Nt} (h : zuA n = true) (i : Int) : (0 <= (lnA n i).price /\ (lnA n i).price <= 10000) /\ (0 <= (lnA n i).wrong /\ (lnA n i).wrong <= 9) := by
 unfold lnA
 by_cases hi : i.toNat < n.lines.length
 ·
  have e : n.lines.getD i.toNat ⟨0, 0, 0, 0⟩ = n.lines[i.toNat] := by simp [hi]
  rw [e]
  simp only [zuA, Bool.and_eq_true, List.all_eq_true] at h
  have := h.2 _ (List.getElem_mem hi)
  simp only [zvO, Bool.and_eq_true, decide_eq_true_eq] at this
  omega
 ·
  have e : n.lines.getD i.toNat ⟨0, 0, 0, 0⟩ = ⟨0, 0, 0, 0⟩ := by simp [hi]
  rw [e]; decide
theorem zvd {n : Nt} (h : zuA n = true) {i : Nat} (hi : i < n.lines.length) : zvO n (lnA n (i : Int)) = true := by
 unfold lnA
 have e : n.lines.getD (i : Int).toNat ⟨0, 0, 0, 0⟩ = n.lines[i] := by simp [hi]
 rw [e]
 simp only [zuA, Bool.and_eq_true, List.all_eq_true] at h
 exact h.2 _ (List.getElem_mem hi)
theorem zuH {n : Nt} (h : zuA n = true) : 1 <= n.offices /\ n.offices <= 6 /\ n.lines.length <= 10 := by
 simp only [zuA, Bool.and_eq_true, decide_eq_true_eq] at h
 omega
theorem zu0 {n : Nt} {x : Lin} (h : zvO n x = true) {o : Int} (ht : touch x o = true) : (0 <= oth x o /\ oth x o <= n.offices - 1) /\ oth x o ≠ o /\ touch x (oth x o) = true /\ oth x (oth x o) = o := by
 simp only [zvO, touch, Bool.and_eq_true, Bool.or_eq_true, decide_eq_true_eq] at h ht ⊢
 unfold oth
 obtain ⟨⟨⟨⟨h1, h2⟩, h3⟩, _⟩, _⟩ := h
 rcases ht with e | e
 ·
  exact ⟨⟨by omega, by omega⟩, by omega, .inr (by omega), by omega⟩
 ·
  exact ⟨⟨by omega, by omega⟩, by omega, .inl (by omega), by omega⟩
theorem zvi {n : Nt} (h : zuA n = true) : ∀ l, 0 <= prc n l /\ prc n l <= 10000 * (l.length : Int)
 | [] => by simp [prc]
 | i :: l => by have h1 := zvi h l; have h2 := (zvY h i).1; rw [prc, List.length_cons]; omega
theorem zvH {n : Nt} (h : zuA n = true) : ∀ l, 0 <= grb n l /\ grb n l <= 9 * (l.length : Int)
 | [] => by simp [grb]
 | i :: l => by have h1 := zvH h l; have h2 := (zvY h i).2; rw [grb, List.length_cons]; omega
theorem zxP (n : Nt) : ∀ a b, grb n (a ++ b) = grb n a + grb n b
 | [], b => by simp [grb]
 | i :: a, b => by rw [List.cons_append, grb, grb, zxP n a b]; omega
def goB (n : Nt) (a : Int) (met : List Int) (i : Nat) : Bool := touch (lnA n i) a && !decide (oth (lnA n i) a ∈ met)
def rts (n : Nt) (to : Int) : Nat -> Int -> List Int -> List Int -> List (List Int)
 | 0, _, _, _ => []
 | fu + 1, a, met, l => if a = to then [l] else
  (List.range n.lines.length).flatMap fun (i : Nat) => if goB n a met i then rts n to fu (oth (lnA n i) a) (met ++ [oth (lnA n i) a]) (l ++ [(i : Int)]) else []
theorem zvS {n : Nt} (h : n.lines.length <= 10) (to : Int) : ∀ fu a met l, (rts n to fu a met l).length <= 10 ^ fu
 | 0, a, met, l => by simp [rts]
 | fu + 1, a, met, l => by
  rw [rts]
  have hp : 0 < 10 ^ fu := Nat.pow_pos (by omega)
  split
  ·
   simp only [List.length_cons, List.length_nil, Nat.pow_succ]; omega
  ·
   have key : ∀ (g : Nat -> List (List Int)) (k : List Nat), (∀ i ∈ k, (g i).length <= 10 ^ fu) -> (k.flatMap g).length <= k.length * 10 ^ fu := by
    intro g k
    induction k with
    | nil => intro _; simp
    | cons i k ih =>
     intro hk
     have h1 := hk i (List.mem_cons_self ..)
     have h2 := ih fun j hj => hk j (List.mem_cons_of_mem _ hj)
     rw [List.flatMap_cons, List.length_append, List.length_cons, Nat.add_mul]
     omega
   have := key (fun (i : Nat) => if goB n a met i then rts n to fu (oth (lnA n i) a) (met ++ [oth (lnA n i) a]) (l ++ [(i : Int)]) else []) (List.range n.lines.length) (fun i _ => by
    split
    ·
     exact zvS h to fu ..
    ·
     simp)
   rw [List.length_range] at this
   have h3 : n.lines.length * 10 ^ fu <= 10 * 10 ^ fu := Nat.mul_le_mul_right _ h
   rw [Nat.pow_succ]
   omega
theorem zvQ (n : Nt) (to : Int) : ∀ fu a met l r, r ∈ rts n to fu a met l -> ∃ t, r = l ++ t
 | 0, a, met, l, r, h => by simp [rts] at h
 | fu + 1, a, met, l, r, h => by
  rw [rts] at h
  split at h
  ·
   rw [List.mem_singleton] at h; exact ⟨[], by simp [h]⟩
  ·
   rw [List.mem_flatMap] at h
   obtain ⟨i, _, hi⟩ := h
   split at hi
   ·
    obtain ⟨t, ht⟩ := zvQ n to fu _ _ _ r hi
    exact ⟨(i : Int) :: t, by rw [ht]; simp⟩
   ·
    simp at hi
theorem zxG {i j : Int} (h : i < j) (s t : List Int) : ∀ l : List Int, ltL (l ++ i :: s) (l ++ j :: t) = true
 | [] => by simp only [List.nil_append, ltL]; rw [if_neg (by omega)]; exact decide_eq_true h
 | x :: l => by
  show (if x = x then ltL (l ++ i :: s) (l ++ j :: t) else decide (x < x)) = true
  rw [if_pos rfl]; exact zxG h s t l
theorem zv7 (n : Nt) (to : Int) : ∀ fu a met l, (rts n to fu a met l).Pairwise fun x y => ltL x y = true
 | 0, a, met, l => by simp [rts]
 | fu + 1, a, met, l => by
  rw [rts]
  split
  ·
   simp
  ·
   have key : ∀ k : List Nat, k.Pairwise (· < ·) -> (k.flatMap fun (i : Nat) => if goB n a met i then rts n to fu (oth (lnA n i) a) (met ++ [oth (lnA n i) a]) (l ++ [(i : Int)]) else []).Pairwise fun x y => ltL x y = true := by
    intro k
    induction k with
    | nil => intro _; simp
    | cons i k ih =>
     intro hk
     rw [List.pairwise_cons] at hk
     rw [List.flatMap_cons, List.pairwise_append]
     refine ⟨?_, ih hk.2, ?_⟩
     ·
      split
      ·
       exact zv7 n to fu ..
      ·
       simp
     ·
      intro x hx y hy
      rw [List.mem_flatMap] at hy
      obtain ⟨j, hj, hy⟩ := hy
      split at hx
      ·
       split at hy
       ·
        obtain ⟨s, rfl⟩ := zvQ n to fu _ _ _ x hx
        obtain ⟨t, rfl⟩ := zvQ n to fu _ _ _ y hy
        have := hk.1 j hj
        simp only [List.append_assoc, List.cons_append, List.nil_append]
        exact zxG (by omega) s t l
       ·
        simp at hy
      ·
       simp at hx
   exact key _ List.pairwise_lt_range
def unm (n : Nt) (met : List Int) : Nat := ((List.range n.offices.toNat).filter fun (v : Nat) => decide ((v : Int) ∉ met)).length
theorem filter_lt {α : Type} {p q : α -> Bool} (h : ∀ x, q x = true -> p x = true) {x : α} (hp : p x = true) (hq : q x = false) : ∀ {l : List α}, x ∈ l -> (l.filter q).length < (l.filter p).length
 | [], hx => nomatch hx
 | y :: l, hx => by
  have hle : ∀ l : List α, (l.filter q).length <= (l.filter p).length := by
   intro l
   induction l with
   | nil => exact Nat.le_refl _
   | cons z l ih =>
    rw [List.filter_cons, List.filter_cons]
    cases hz : q z with
    | true => rw [h z hz]; simpa using ih
    | false =>
     cases hz2 : p z with
     | true => simp; omega
     | false => simpa using ih
  rw [List.filter_cons, List.filter_cons]
  rcases List.mem_cons.1 hx with e | e
  ·
   subst e
   have := hle l
   rw [hp, hq]; simp; omega
  ·
   have ih := filter_lt h hp hq e
   cases hz : q y with
   | true => rw [h y hz]; simpa using ih
   | false =>
    cases hz2 : p y with
    | true => simp; omega
    | false => simpa using ih
theorem zzN {n : Nt} {met : List Int} {v : Int} (h0 : 0 <= v) (h1 : v <= n.offices - 1) (hv : v ∉ met) : unm n (met ++ [v]) < unm n met := by
 unfold unm
 refine filter_lt (x := v.toNat) (fun x hx => ?_) ?_ ?_ ?_
 ·
  simp only [decide_eq_true_eq, List.mem_append, not_or] at hx ⊢; exact hx.1
 ·
  have : ((v.toNat : Nat) : Int) = v := by omega
  rw [this]; exact decide_eq_true hv
 ·
  have : ((v.toNat : Nat) : Int) = v := by omega
  rw [this]; simp
 ·
  rw [List.mem_range]; omega
theorem zwD (n : Nt) (met : List Int) : unm n met <= n.offices.toNat := by
 unfold unm
 have := List.length_filter_le (fun (v : Nat) => decide ((v : Int) ∉ met)) (List.range n.offices.toNat)
 rwa [List.length_range] at this
theorem zxR {n : Nt} (hn : zuA n = true) {a : Int} {met : List Int} {i : Nat} (hi : i < n.lines.length) (h : goB n a met i = true) : unm n (met ++ [oth (lnA n i) a]) < unm n met := by
 simp only [goB, Bool.and_eq_true, Bool.not_eq_true', decide_eq_false_iff_not] at h
 have := (zu0 (zvd hn hi) h.1).1
 exact zzN this.1 this.2 h.2
def vs (n : Nt) : Int -> List Int -> List Int
 | a, [] => [a]
 | a, i :: l => a :: vs n (oth (lnA n i) a) l
def vl (n : Nt) : Int -> List Int -> Int
 | a, [] => a
 | a, i :: l => vl n (oth (lnA n i) a) l
def inL (n : Nt) (i : Int) : Bool := decide (0 <= i /\ i < (n.lines.length : Int))
def cok (n : Nt) : Int -> List Int -> Bool
 | _, [] => true
 | a, i :: l => inL n i && touch (lnA n i) a && cok n (oth (lnA n i) a) l
theorem zvX (n : Nt) : ∀ (l : List Int) (a : Int), (vs n a l).length = l.length + 1
 | [], a => rfl
 | i :: l, a => by rw [vs, List.length_cons, zvX n l, List.length_cons]
theorem zwF (n : Nt) : ∀ (l : List Int) (a : Int), (vs n a l)[l.length]? = some (vl n a l)
 | [], a => rfl
 | i :: l, a => by rw [vs, vl, List.length_cons, List.getElem?_cons_succ]; exact zwF n l _
theorem zzR (n : Nt) (l : List Int) (a : Int) : vl n a l ∈ vs n a l := List.mem_of_getElem? (zwF n l a)
theorem zwY (n : Nt) (l : List Int) (a : Int) : ∃ t, vs n a l = a :: t := by cases l <;> exact ⟨_, rfl⟩
theorem zAe (n : Nt) (i : Int) : ∀ (l : List Int) (a : Int), vs n a (l ++ [i]) = vs n a l ++ [oth (lnA n i) (vl n a l)]
 | [], a => rfl
 | j :: l, a => by rw [List.cons_append, vs, vs, vl, zAe n i l]; rfl
theorem zAj (n : Nt) (i : Int) : ∀ (l : List Int) (a : Int), vl n a (l ++ [i]) = oth (lnA n i) (vl n a l)
 | [], a => rfl
 | j :: l, a => by rw [List.cons_append, vl, vl, zAj n i l]
theorem zAc (n : Nt) (i : Int) : ∀ (l : List Int) (a : Int), cok n a (l ++ [i]) = (cok n a l && (inL n i && touch (lnA n i) (vl n a l)))
 | [], a => by simp [cok, vl]
 | j :: l, a => by rw [List.cons_append, cok, cok, vl, zAc n i l]; simp only [Bool.and_assoc]
def zuC (n : Nt) (a z : Int) (l : List Int) : Bool := cok n a l && decide (vs n a l).Nodup && decide (vl n a l = z)
theorem zxd {n : Nt} {i : Int} (h : inL n i = true) : ∃ k : Nat, i = (k : Int) /\ k < n.lines.length := by
 simp only [inL, decide_eq_true_eq] at h
 exact ⟨i.toNat, by omega, by omega⟩
theorem zAg {n : Nt} (hn : zuA n = true) : ∀ (l : List Int) (a : Int), cok n a l = true -> cok n (vl n a l) l.reverse = true /\ vs n (vl n a l) l.reverse = (vs n a l).reverse /\ vl n (vl n a l) l.reverse = a
 | [], a, _ => ⟨rfl, rfl, rfl⟩
 | i :: l, a, h => by
  rw [cok, Bool.and_eq_true, Bool.and_eq_true] at h
  obtain ⟨h1, h2, h3⟩ := zAg hn l _ h.2
  obtain ⟨k, rfl, hk⟩ := zxd h.1.1
  have ho := zu0 (zvd hn hk) h.1.2
  rw [vl, List.reverse_cons, zAc, zAe, zAj, h1, h2, h3, h.1.1, ho.2.2.1, ho.2.2.2, vs, List.reverse_cons]
  exact ⟨rfl, rfl, rfl⟩
theorem zz8 {n : Nt} (hn : zuA n = true) {a z : Int} {l : List Int} (h : zuC n a z l = true) : zuC n z a l.reverse = true := by
 simp only [zuC, Bool.and_eq_true, decide_eq_true_eq] at h ⊢
 obtain ⟨⟨h1, h2⟩, h3⟩ := h
 subst h3
 obtain ⟨g1, g2, g3⟩ := zAg hn l a h1
 exact ⟨⟨g1, by rw [g2]; exact (List.pairwise_reverse.2 (h2.imp fun h => Ne.symm h))⟩, g3⟩
theorem zwJ {n : Nt} (hn : zuA n = true) (to : Int) : ∀ fu a met l r, unm n met < fu -> a ∈ met -> (r ∈ rts n to fu a met l ↔ ∃ t, r = l ++ t /\ cok n a t = true /\ (vs n a t).Nodup /\ (∀ v ∈ (vs n a t).drop 1, v ∉ met) /\ vl n a t = to)
 | 0, a, met, l, r, hf, _ => absurd hf (by omega)
 | fu + 1, a, met, l, r, hf, ha => by
  rw [rts]
  by_cases hat : a = to
  ·
   rw [if_pos hat, List.mem_singleton]
   constructor
   ·
    rintro rfl
    exact ⟨[], by simp, rfl, by simp [vs], by simp [vs], hat⟩
   ·
    rintro ⟨t, rfl, _, _, h4, h5⟩
    cases t with
    | nil => simp
    | cons i t =>
     exfalso
     refine h4 to ?_ (hat ▸ ha)
     rw [vs, List.drop_one, List.tail_cons, ← h5, vl]
     exact zzR n t _
  ·
   rw [if_neg hat, List.mem_flatMap]
   constructor
   ·
    rintro ⟨i, hi, hr⟩
    rw [List.mem_range] at hi
    split at hr
    ·
     rename_i hg
     have hlt := zxR hn hi hg
     have hg2 := hg
     simp only [goB, Bool.and_eq_true, Bool.not_eq_true', decide_eq_false_iff_not] at hg2
     obtain ⟨t, rfl, h1, h2, h3, h4⟩ := (zwJ hn to fu _ _ _ r (by omega) (by simp)).1 hr
     refine ⟨(i : Int) :: t, by simp, ?_, ?_, ?_, ?_⟩
     ·
      rw [cok, h1, hg2.1]; simp [inL]; omega
     ·
      rw [vs, List.nodup_cons]
      refine ⟨fun hm => ?_, h2⟩
      obtain ⟨s, hs⟩ := zwY n t (oth (lnA n i) a)
      rw [hs] at hm h3
      rcases List.mem_cons.1 hm with e | e
      ·
       exact hg2.2 (e ▸ ha)
      ·
       have := h3 a (by simpa using e)
       simp [ha] at this
     ·
      intro v hv
      rw [vs, List.drop_one, List.tail_cons] at hv
      obtain ⟨s, hs⟩ := zwY n t (oth (lnA n i) a)
      rw [hs] at hv h3
      rcases List.mem_cons.1 hv with e | e
      ·
       exact e ▸ hg2.2
      ·
       have := h3 v (by simpa using e)
       simp only [List.mem_append, not_or] at this
       exact this.1
     ·
      rw [vl]; exact h4
    ·
     simp at hr
   ·
    rintro ⟨t, rfl, h1, h2, h3, h4⟩
    cases t with
    | nil => exact absurd h4 hat
    | cons i t =>
     rw [cok, Bool.and_eq_true, Bool.and_eq_true] at h1
     obtain ⟨k, rfl, hk⟩ := zxd h1.1.1
     rw [vs, List.drop_one, List.tail_cons] at h3
     obtain ⟨s, hs⟩ := zwY n t (oth (lnA n k) a)
     have hg : goB n a met k = true := by
      simp only [goB, h1.1.2, Bool.true_and, Bool.not_eq_true', decide_eq_false_iff_not]
      exact h3 _ (by rw [hs]; exact List.mem_cons_self ..)
     have hlt := zxR hn hk hg
     refine ⟨k, List.mem_range.2 hk, ?_⟩
     rw [if_pos hg]
     refine (zwJ hn to fu _ _ _ _ (by omega) (by simp)).2 ⟨t, by simp, h1.2, ?_, ?_, ?_⟩
     ·
      rw [vs, List.nodup_cons] at h2; exact h2.2
     ·
      intro v hv
      rw [hs, List.drop_one, List.tail_cons] at hv
      rw [vs, List.nodup_cons, hs, List.nodup_cons] at h2
      have h5 := h3 v (by rw [hs]; exact List.mem_cons_of_mem _ hv)
      simp only [List.mem_append, List.mem_singleton, not_or]
      exact ⟨h5, fun e => h2.2.1 (e ▸ hv)⟩
     ·
      exact h4
def zuK (n : Nt) (a z : Int) : List (List Int) := rts n z 7 a [a] []
theorem zxj {n : Nt} (hn : zuA n = true) {a z : Int} {r : List Int} : r ∈ zuK n a z ↔ zuC n a z r = true := by
 have h6 := zuH hn
 have hu := zwD n [a]
 unfold zuK
 rw [zwJ hn z 7 a [a] [] r (by omega) (by simp)]
 simp only [zuC, Bool.and_eq_true, decide_eq_true_eq, List.nil_append]
 constructor
 ·
  rintro ⟨t, rfl, h1, h2, _, h4⟩; exact ⟨⟨h1, h2⟩, h4⟩
 ·
  rintro ⟨⟨h1, h2⟩, h4⟩
  refine ⟨r, rfl, h1, h2, fun v hv => ?_, h4⟩
  obtain ⟨s, hs⟩ := zwY n r a
  rw [hs] at h2 hv
  rw [List.nodup_cons] at h2
  simp only [List.mem_singleton]
  rintro rfl
  exact h2.1 (by simpa using hv)
def zuT (n : Nt) (a z most : Int) : List (List Int) := (zuK n a z).filter fun r => decide (grb n r <= most)
def bt2 (n : Nt) (w : Int) (a b : List Int) : Bool := decide (w * prc n a < w * prc n b) || (decide (w * prc n a = w * prc n b) && decide (a.length < b.length))
def bt3 (n : Nt) (w : Int) (a b : List Int) : Bool := if w * prc n a ≠ w * prc n b then decide (w * prc n a < w * prc n b) else if a.length ≠ b.length then decide (a.length < b.length) else ltL a b
theorem zz2 {n : Nt} {w : Int} {x b : List Int} (h : ltL b x = true) : bt2 n w x b = bt3 n w x b := by
 unfold bt2 bt3
 split
 ·
  rename_i h1; rw [decide_eq_false h1]; simp
 ·
  rename_i h1
  rw [Decidable.not_not] at h1
  rw [h1]
  split
  ·
   simp
  ·
   rename_i h2; rw [zd0 h]; simp; omega
theorem zyg {n : Nt} {w : Int} {a b : List Int} (h : bt3 n w a b = true) : bt3 n w b a = false := by
 unfold bt3 at h ⊢
 split at h
 ·
  rename_i h1; rw [if_pos (Ne.symm h1)]; simp at h ⊢; omega
 ·
  rename_i h1
  rw [Decidable.not_not] at h1
  rw [if_neg (by rw [h1]; simp)]
  split at h
  ·
   rename_i h2; rw [if_pos (Ne.symm h2)]; simp at h ⊢; omega
  ·
   rename_i h2; rw [if_neg (by omega)]; exact zd0 h
theorem zwc {n : Nt} {w : Int} {a b c : List Int} (h1 : bt3 n w a b = false) (h2 : bt3 n w b c = false) : bt3 n w a c = false := by
 unfold bt3 at h1 h2 ⊢
 generalize w * prc n a = x at *
 generalize w * prc n b = y at *
 generalize w * prc n c = z at *
 by_cases e1 : x = y
 ·
  by_cases e2 : y = z
  ·
   rw [if_neg (by simp [e1])] at h1
   rw [if_neg (by simp [e2])] at h2
   rw [if_neg (by simp [e1, e2])]
   by_cases f1 : a.length = b.length
   ·
    by_cases f2 : b.length = c.length
    ·
     rw [if_neg (by simp [f1])] at h1
     rw [if_neg (by simp [f2])] at h2
     rw [if_neg (by simp [f1, f2])]
     exact zaV h1 h2
    ·
     rw [if_pos f2] at h2
     rw [if_pos (by omega)]
     simp at h2 ⊢; omega
   ·
    rw [if_pos f1] at h1
    simp at h1
    by_cases f2 : b.length = c.length
    ·
     rw [if_pos (by omega)]; simp; omega
    ·
     rw [if_pos f2] at h2
     simp at h2
     rw [if_pos (by omega)]; simp; omega
  ·
   rw [if_pos e2] at h2
   rw [if_pos (by omega)]
   simp at h2 ⊢; omega
 ·
  rw [if_pos e1] at h1
  simp at h1
  by_cases e2 : y = z
  ·
   rw [if_pos (by omega)]; simp; omega
  ·
   rw [if_pos e2] at h2
   simp at h2
   rw [if_pos (by omega)]; simp; omega
theorem zvp {n : Nt} {w : Int} (a : List Int) : bt3 n w a a = false := by
 unfold bt3; simp [zct]
def zvb {α : Type} (f : α -> α -> Bool) : α -> List α -> α
 | b, [] => b
 | b, x :: l => zvb f (if f x b then x else b) l
theorem zvK {α : Type} (f : α -> α -> Bool) (x : α) : ∀ (l : List α) (b : α), zvb f b (l ++ [x]) = if f x (zvb f b l) then x else zvb f b l
 | [], b => rfl
 | y :: l, b => by rw [List.cons_append, zvb, zvb, zvK f x l]
theorem zxX {n : Nt} {w : Int} : ∀ (l : List (List Int)) (b : List Int), (∀ y ∈ l, ltL b y = true) -> l.Pairwise (fun x y => ltL x y = true) -> zvb (bt2 n w) b l = zvb (bt3 n w) b l
 | [], b, _, _ => rfl
 | x :: l, b, h1, h2 => by
  rw [List.pairwise_cons] at h2
  rw [zvb, zvb, zz2 (h1 x (List.mem_cons_self ..))]
  refine zxX l _ (fun y hy => ?_) h2.2
  split
  ·
   exact h2.1 y hy
  ·
   exact h1 y (List.mem_cons_of_mem _ hy)
theorem zvV {n : Nt} {w : Int} : ∀ (l : List (List Int)) (b : List Int), zvb (bt3 n w) b l ∈ b :: l /\ ∀ y ∈ b :: l, bt3 n w y (zvb (bt3 n w) b l) = false
 | [], b => ⟨List.mem_cons_self .., fun y hy => by rw [List.mem_singleton] at hy; subst hy; exact zvp _⟩
 | x :: l, b => by
  rw [zvb]
  obtain ⟨h1, h2⟩ := zvV (n := n) (w := w) l (if bt3 n w x b then x else b)
  refine ⟨?_, fun y hy => ?_⟩
  ·
   rcases List.mem_cons.1 h1 with e | e
   ·
    rw [e]; split <;> simp
   ·
    exact List.mem_cons_of_mem _ (List.mem_cons_of_mem _ e)
  ·
   have h3 := h2 _ (List.mem_cons_self ..)
   rcases List.mem_cons.1 hy with e | e
   ·
    subst e
    refine zwc ?_ h3
    split
    ·
     rename_i h; exact zyg h
    ·
     exact zvp _
   ·
    rcases List.mem_cons.1 e with e | e
    ·
     subst e
     refine zwc ?_ h3
     split
     ·
      exact zvp _
     ·
      rename_i h; simpa using h
    ·
     exact h2 y (List.mem_cons_of_mem _ e)
def zxr (n : Nt) (w : Int) : List (List Int) -> Option (List Int)
 | [] => none
 | b :: l => some (zvb (bt3 n w) b l)
def rtB (n : Nt) (a z w most : Int) : Option (List Int) := zxr n w (zuT n a z most)
theorem zw0 (n : Nt) (a z most : Int) : (zuT n a z most).Pairwise fun x y => ltL x y = true := List.Pairwise.filter _ (zv7 n z 7 a [a] [])
theorem zzV {n : Nt} {w : Int} {b : List Int} {l : List (List Int)} (h : (b :: l).Pairwise fun x y => ltL x y = true) : zvb (bt2 n w) b l = zvb (bt3 n w) b l := by
 rw [List.pairwise_cons] at h; exact zxX l b h.1 h.2
theorem zw6 {n : Nt} (hn : zuA n = true) {a z most : Int} {r : List Int} : r ∈ zuT n a z most ↔ zuC n a z r = true /\ grb n r <= most := by
 unfold zuT; rw [List.mem_filter, zxj hn, decide_eq_true_eq]
theorem zAf {n : Nt} (hn : zuA n = true) {a z w most : Int} (h : rtB n a z w most = none) (r : List Int) : ¬ (zuC n a z r = true /\ grb n r <= most) := by
 unfold rtB at h
 cases hc : zuT n a z most with
 | nil => rw [← zw6 hn, hc]; simp
 | cons b l => rw [hc] at h; cases h
theorem zvB {n : Nt} (hn : zuA n = true) {a z w most : Int} {r : List Int} (h : rtB n a z w most = some r) : (zuC n a z r = true /\ grb n r <= most) /\ ∀ y, zuC n a z y = true /\ grb n y <= most -> bt3 n w y r = false := by
 unfold rtB at h
 cases hc : zuT n a z most with
 | nil => rw [hc] at h; cases h
 | cons b l =>
  rw [hc] at h
  injection h with h
  obtain ⟨h1, h2⟩ := zvV (n := n) (w := w) l b
  rw [h] at h1 h2
  refine ⟨(zw6 hn).1 (hc ▸ h1), fun y hy => h2 y ?_⟩
  have := (zw6 hn).2 hy
  rwa [hc] at this
theorem zAk {n : Nt} {w : Int} {a b : List Int} (h : bt3 n w a b = false) : w * prc n b <= w * prc n a := by
 unfold bt3 at h
 by_cases e : w * prc n a = w * prc n b
 ·
  omega
 ·
  rw [if_pos e] at h; simp at h; exact h
theorem zAb {n : Nt} (hn : zuA n = true) {a z w most : Int} : (rtB n a z w most = none ↔ rtB n z a w most = none) /\ ∀ r s, rtB n a z w most = some r -> rtB n z a w most = some s -> w * prc n r = w * prc n s := by
 have one : ∀ a z, rtB n a z w most = none -> rtB n z a w most = none := by
  intro a z h
  cases hc : rtB n z a w most with
  | none => rfl
  | some r =>
   have h1 := (zvB hn hc).1
   exact absurd ⟨zz8 hn h1.1, by rw [zz9]; exact h1.2⟩ (zAf hn h r.reverse)
 refine ⟨⟨one a z, one z a⟩, fun r s hr hs => ?_⟩
 obtain ⟨h1, h2⟩ := zvB hn hr
 obtain ⟨h3, h4⟩ := zvB hn hs
 have h5 := zAk (h2 s.reverse ⟨zz8 hn h3.1, by rw [zz9]; exact h3.2⟩)
 have h6 := zAk (h4 r.reverse ⟨zz8 hn h1.1, by rw [zz9]; exact h1.2⟩)
 rw [zAi] at h5 h6
 omega
theorem zy5 {n : Nt} (hn : zuA n = true) {to most : Int} {fu : Nat} {a : Int} {met l : List Int} (h : most < grb n l) : (rts n to fu a met l).filter (fun r => decide (grb n r <= most)) = [] := by
 rw [List.filter_eq_nil_iff]
 intro r hr
 obtain ⟨t, rfl⟩ := zvQ n to fu a met l r hr
 have := (zvH hn t).1
 rw [zxP]; simp; omega
theorem zwW {n : Nt} (hn : zuA n = true) {a z : Int} {r : List Int} (ha : 0 <= a /\ a <= n.offices - 1) (h : zuC n a z r = true) : r.length <= 6 := by
 have h6 := zuH hn
 simp only [zuC, Bool.and_eq_true, decide_eq_true_eq] at h
 have key : ∀ (l : List Int) (a : Int), (0 <= a /\ a <= n.offices - 1) -> cok n a l = true -> ∀ v ∈ vs n a l, 0 <= v /\ v <= n.offices - 1 := by
  intro l
  induction l with
  | nil => intro a ha _ v hv; simp [vs] at hv; subst hv; exact ha
  | cons i l ih =>
   intro a ha hc v hv
   rw [cok, Bool.and_eq_true, Bool.and_eq_true] at hc
   obtain ⟨k, rfl, hk⟩ := zxd hc.1.1
   rw [vs] at hv
   rcases List.mem_cons.1 hv with e | e
   ·
    subst e; exact ha
   ·
    exact ih _ (zu0 (zvd hn hk) hc.1.2).1 hc.2 v e
 have hk := key r a ha h.1.1
 have pig : ∀ (m : Nat) (l : List Int), l.Nodup -> (∀ v ∈ l, 0 <= v /\ v < (m : Int)) -> l.length <= m := by
  intro m
  induction m with
  | zero =>
   intro l _ hl
   cases l with
   | nil => exact Nat.le_refl _
   | cons v l => have := hl v (List.mem_cons_self ..); omega
  | succ m ih =>
   intro l hd hl
   have h1 := ih (l.filter fun v => decide (v ≠ (m : Int))) (hd.filter _) (fun v hv => by
    rw [List.mem_filter, decide_eq_true_eq] at hv
    have := hl v hv.1
    omega)
   have h2 : l.length <= (l.filter fun v => decide (v ≠ (m : Int))).length + 1 := by
    have h3 := hd
    clear h1 hl hd
    induction l with
    | nil => simp
    | cons v l ihl =>
     rw [List.nodup_cons] at h3
     have h4 := ihl h3.2
     by_cases e : v = (m : Int)
     ·
      have h5 : l.filter (fun v => decide (v ≠ (m : Int))) = l := by
       rw [List.filter_eq_self]
       intro x hx
       simp only [decide_eq_true_eq]
       rintro rfl
       exact h3.1 (e ▸ hx)
      rw [List.filter_cons, h5]; simp [e]
     ·
      rw [List.filter_cons, if_pos (by simpa using e)]; simp only [List.length_cons]; omega
   omega
 have := pig 6 (vs n a r) h.1.2 (fun v hv => by have := hk v hv; omega)
 rw [zvX] at this
 omega
end Go.Av
end
section
namespace Go.Av
open Go.Proofs
set_option maxRecDepth 100000
set_option maxHeartbeats 1000000
variable {G : Glob}
def bsK {α : Type} (f : α -> α -> Bool) (d : α) (D : List α) : Nat -> α
 | 0 => D.getD 0 d
 | k + 1 => if f (D.getD (k + 1) d) (bsK f d D k) then D.getD (k + 1) d else bsK f d D k
theorem zyI {α : Type} (f : α -> α -> Bool) (d : α) (b : α) (D : List α) : ∀ k, k <= D.length -> bsK f d (b :: D) k = zvb f b (D.take k)
 | 0, _ => by simp [bsK, zvb]
 | k + 1, h => by
  rw [bsK, zyI f d b D k (by omega), List.take_succ_eq_append_getElem (by omega), zvK]
  have : (b :: D).getD (k + 1) d = D[k] := by simp [show k < D.length by omega]
  rw [this]
theorem zzp {α : Type} (f : α -> α -> Bool) (d : α) (b : α) (D : List α) : bsK f d (b :: D) D.length = zvb f b D := by
 rw [zyI f d b D _ (Nat.le_refl _), List.take_length]
end Go.Av
end
