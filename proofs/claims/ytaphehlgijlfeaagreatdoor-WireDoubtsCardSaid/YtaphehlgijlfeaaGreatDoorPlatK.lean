
set_option linter.unusedVariables false
set_option linter.unusedSimpArgs false
section
namespace Go.Av
def ltL : List Int -> List Int -> Bool
 | [], [] => false
 | [], _ :: _ => true
 | _ :: _, [] => false
 | a :: as, b :: bs => if a = b then ltL as bs else decide (a < b)
def cmpL : List Int -> List Int -> Int
 | [], [] => 0
 | [], _ :: _ => -1
 | _ :: _, [] => 1
 | a :: as, b :: bs => if a < b then -1 else if b < a then 1 else cmpL as bs
theorem zhz : ∀ (a b : List Int), decide (cmpL a b < 0) = ltL a b
 | [], [] => rfl
 | [], _ :: _ => rfl
 | _ :: _, [] => rfl
 | a :: as, b :: bs => by
  simp only [cmpL, ltL]
  by_cases h1 : a < b
  ·
   have : ¬ a = b := by omega
   simp [h1, this]
  ·
   by_cases h2 : b < a
   ·
    have : ¬ a = b := by omega
    simp [h1, h2, this]
   ·
    have : a = b := by omega
    subst this
    simpa using zhz as bs
theorem zct : ∀ a : List Int, ltL a a = false
 | [] => rfl
 | a :: as => by simpa [ltL] using zct as
theorem zd1 : ∀ {a b : List Int}, ltL a b = false -> ltL b a = false -> a = b
 | [], [], _, _ => rfl
 | [], _ :: _, h, _ => by simp [ltL] at h
 | _ :: _, [], _, h => by simp [ltL] at h
 | a :: as, b :: bs, h1, h2 => by
  simp only [ltL] at h1 h2
  by_cases h : a = b
  ·
   subst h
   simp only [if_true] at h1 h2
   rw [zd1 h1 h2]
  ·
   rw [if_neg h] at h1
   rw [if_neg (fun e => h e.symm)] at h2
   simp only [decide_eq_false_iff_not] at h1 h2
   omega
theorem zbV : ∀ {a b c : List Int}, ltL a b = true -> ltL b c = true -> ltL a c = true
 | [], [], _, h, _ => by simp [ltL] at h
 | _ :: _, [], _, h, _ => by simp [ltL] at h
 | _, _ :: _, [], _, h => by simp [ltL] at h
 | [], _ :: _, _ :: _, _, _ => rfl
 | a :: as, b :: bs, c :: cs, h1, h2 => by
  simp only [ltL] at h1 h2 ⊢
  by_cases e1 : a = b
  ·
   subst e1
   rw [if_pos rfl] at h1
   by_cases e2 : a = c
   ·
    subst e2
    rw [if_pos rfl] at h2 ⊢
    exact zbV h1 h2
   ·
    rw [if_neg e2] at h2 ⊢
    exact h2
  ·
   rw [if_neg e1] at h1
   simp only [decide_eq_true_eq] at h1
   by_cases e2 : b = c
   ·
    subst e2
    rw [if_neg e1]
    simpa using h1
   ·
    rw [if_neg e2] at h2
    simp only [decide_eq_true_eq] at h2
    rw [if_neg (by omega)]
    simp only [decide_eq_true_eq]; omega
theorem zd0 {a b : List Int} (h : ltL a b = true) : ltL b a = false := by
 cases hb : ltL b a with
 | false => rfl
 | true => have := zbV h hb; rw [zct] at this; cases this
theorem zaV {a b c : List Int} (h1 : ltL a b = false) (h2 : ltL b c = false) : ltL a c = false := by
 cases h : ltL a c with
 | false => rfl
 | true =>
  -- b <= a < c, so b < c
  cases hb : ltL b a with
  | true => rw [zbV hb h] at h2; cases h2
  | false => have := zd1 h1 hb; subst this; rw [h] at h2; cases h2
def yL (l : List (List Int)) : Prop := l.Pairwise fun a b => ltL b a = false
theorem zbN : ∀ {l l' : List (List Int)}, l.Perm l' -> yL l -> yL l' -> l = l'
 | [], l', hp, _, _ => (List.nil_perm.1 hp).symm
 | a :: as, [], hp, _, _ => by have := hp.length_eq; simp at this
 | a :: as, b :: bs, hp, h1, h2 => by
  have ha : a ∈ b :: bs := hp.mem_iff.1 (List.mem_cons_self ..)
  have hb : b ∈ a :: as := hp.mem_iff.2 (List.mem_cons_self ..)
  have e : a = b := by
   rcases List.mem_cons.1 ha with rfl | ha
   ·
    rfl
   rcases List.mem_cons.1 hb with rfl | hb
   ·
    rfl
   exact zd1 ((List.pairwise_cons.1 h2).1 a ha) ((List.pairwise_cons.1 h1).1 b hb)
  subst e
  rw [zbN (List.Perm.cons_inv hp) (List.pairwise_cons.1 h1).2 (List.pairwise_cons.1 h2).2]
def leL (a b : List Int) : Bool := !ltL b a
def sortL (l : List (List Int)) : List (List Int) := l.mergeSort leL
theorem wF (l : List (List Int)) : (sortL l).Perm l := List.mergeSort_perm l leL
theorem kR (l : List (List Int)) : yL (sortL l) := by
 have := List.pairwise_mergeSort (le := leL) (fun a b c h1 h2 => by
  simp only [leL, Bool.not_eq_true'] at *; exact zaV h2 h1) (fun a b => by
  simp only [leL, Bool.or_eq_true, Bool.not_eq_true']
  cases h : ltL b a with
  | false => exact .inl rfl
  | true => exact .inr (zd0 h)) l
 refine this.imp fun h => ?_
 simpa [leL] using h
theorem zdn {l d : List (List Int)} (hp : d.Perm l) (hs : yL d) : d = sortL l := zbN (hp.trans (wF l).symm) hs (kR l)
theorem zb9 {l : List (List Int)} {m : List Int} : m ∈ sortL l ↔ m ∈ l := (wF l).mem_iff
theorem ziz : ∀ {l l' : List (List Int)}, l.Nodup -> l'.Nodup -> (∀ m, m ∈ l ↔ m ∈ l') -> l.Perm l' := fun h1 h2 h => (List.perm_ext_iff_of_nodup h1 h2).2 h
theorem zmr {l l' : List (List Int)} (h1 : l.Nodup) (h2 : l'.Nodup) (h : ∀ m, m ∈ l ↔ m ∈ l') : sortL l = sortL l' := zdn ((wF l).trans (ziz h1 h2 h)) (kR l)
theorem zfD {α β : Type} {l : List α} {f : α -> List β} (hl : l.Nodup) (h1 : ∀ a ∈ l, (f a).Nodup) (h2 : ∀ a ∈ l, ∀ b ∈ l, ∀ x, x ∈ f a -> x ∈ f b -> a = b) : (l.flatMap f).Nodup := by
 rw [List.Nodup, List.pairwise_flatMap]
 refine ⟨h1, ?_⟩
 refine List.Pairwise.imp_of_mem ?_ hl
 intro a b ha hb hne x hx y hy e
 subst e
 exact hne (h2 a ha b hb x hx hy)
def jB : Nat -> (Nat -> Int) -> Int
 | 0, _ => 0
 | n + 1, f => jB n f + f n
theorem zmE (n : Nat) : jB n (fun _ => 0) = 0 := by induction n with | zero => rfl | succ n ih => simp [jB, ih]
theorem zoU (n : Nat) (f g : Nat -> Int) : jB n (fun i => f i + g i) = jB n f + jB n g := by induction n with | zero => rfl | succ n ih => simp only [jB, ih]; omega
theorem zjY {n : Nat} {f g : Nat -> Int} (h : ∀ i, i < n -> f i = g i) : jB n f = jB n g := by
 induction n with
 | zero => rfl
 | succ n ih => simp only [jB]; rw [ih (fun i hi => h i (by omega)), h n (by omega)]
theorem zmJ (a b : Nat) (f : Nat -> Nat -> Int) : jB a (fun i => jB b (fun j => f i j)) = jB b (fun j => jB a (fun i => f i j)) := by
 induction a with
 | zero => simp [jB, zmE]
 | succ a ih => simp only [jB]; rw [ih, zoU]
end Go.Av
end
