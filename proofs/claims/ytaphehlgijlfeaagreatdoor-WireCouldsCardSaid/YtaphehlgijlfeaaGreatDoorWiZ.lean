
import Derived.Test.YtaphehlgijlfeaaGreatDoorWiY
import Derived.Test.YtaphehlgijlfeaaGreatDoorWiQ
import Derived.Test.YtaphehlgijlfeaaGreatDoorWiM
import Derived.Test.YtaphehlgijlfeaaGreatDoorWiN
import Derived.Test.YtaphehlgijlfeaaGreatDoorPlatN
set_option linter.unusedVariables false
set_option linter.unusedSimpArgs false
section
namespace Go.Av
open Go.Proofs
def jnL (c : Cod) (a : List Int × List Int) (L : List (List Int × List Int)) : List (List Int × List Int) := L.filterMap (jn c a)
def nxP (c : Cod) (A L : List (List Int × List Int)) (i : Nat) : List (List Int × List Int) := (A.take i).flatMap fun a => jnL c a L
theorem zn2 {c : Cod} {A L : List (List Int × List Int)} {i : Nat} (h : i < A.length) : nxP c A L (i + 1) = nxP c A L i ++ jnL c A[i] L := by
 unfold nxP; rw [List.take_succ_eq_append_getElem h, List.flatMap_append]; simp
theorem zpO {c : Cod} {a : List Int × List Int} {L : List (List Int × List Int)} {k : Nat} (h : k < L.length) (hy : ∀ x ∈ jnW a.2 L[k].2, x <= c.most) : jnL c a (L.take (k + 1)) = jnL c a (L.take k) ++ [(jnR a.1 L[k].1, jnW a.2 L[k].2)] := by
 have e : jn c a L[k] = some (jnR a.1 L[k].1, jnW a.2 L[k].2) := by unfold jn; rw [if_pos (by simpa using hy)]
 unfold jnL; rw [List.take_succ_eq_append_getElem h, List.filterMap_append]; simp [e]
theorem zrA {c : Cod} {a : List Int × List Int} {L : List (List Int × List Int)} {k : Nat} (h : k < L.length) (hn : ¬ ∀ x ∈ jnW a.2 L[k].2, x <= c.most) : jnL c a (L.take (k + 1)) = jnL c a (L.take k) := by
 have e : jn c a L[k] = none := by unfold jn; rw [if_neg (by simpa using hn)]
 unfold jnL; rw [List.take_succ_eq_append_getElem h, List.filterMap_append]; simp [e]
def zpm (c : Cod) (n : Nat) (p : Nat) (a : List Int × List Int) : Prop := a.1.length = c.fields.length /\ a.2.length = n /\ (∀ x ∈ a.1, 0 <= x /\ x < 10 ^ p) /\ ∀ x ∈ a.2, 0 <= x /\ x <= 100
theorem zpY {a b : List Int} {x : Int} (h : x ∈ jnR a b) : ∃ y ∈ a, ∃ z ∈ b, x = 10 * y + z := by
 unfold jnR at h
 obtain ⟨j, hj, rfl⟩ := List.getElem_of_mem h
 simp at hj ⊢
 exact ⟨a[j], List.getElem_mem _, b[j], List.getElem_mem _, rfl⟩
theorem zqf {a b : List Int} {x : Int} (h : x ∈ jnW a b) : ∃ y ∈ a, ∃ z ∈ b, x = y + z := by
 unfold jnW at h
 obtain ⟨j, hj, rfl⟩ := List.getElem_of_mem h
 simp at hj ⊢
 exact ⟨a[j], List.getElem_mem _, b[j], List.getElem_mem _, rfl⟩
theorem zle {c : Cod} {l : List (List (List UInt8))} {p : Nat} {b : List Int × List Int} (hc : jA c = true) (h : b ∈ jl c l p) : b.1.length = c.fields.length /\ b.2.length = l.length /\ (∀ x ∈ b.1, 0 <= x /\ x <= 9) /\ ∀ x ∈ b.2, 0 <= x /\ x <= 4 := by
 have hcb := wI hc
 unfold jl at h
 obtain ⟨n, _, rfl⟩ := List.mem_map.1 h
 refine ⟨vk _ _, by simp [vX], zeu _ _, fun x hx => ?_⟩
 obtain ⟨g, _, rfl⟩ := List.mem_map.1 hx
 have hw := zkG g p (ql c.fields.length n) (c.fields.length + 1)
 rw [← zen]
 omega
theorem zly : ∀ (M l : List Nat), l.Nodup -> (∀ x ∈ l, x ∈ M) -> l.length <= M.length
 | [], l, _, h => by
  cases l with
  | nil => simp
  | cons a l => exact absurd (h a (List.mem_cons_self ..)) (by simp)
 | y :: M, l, hn, h => by
  have h1 := zly M (l.erase y) (hn.erase y) (fun x hx => by
   have hx2 := (List.Nodup.mem_erase_iff hn).1 hx
   exact (List.mem_cons.1 (h x hx2.2)).resolve_left hx2.1)
  have h2 : l.length <= (l.erase y).length + 1 := by rw [List.length_erase]; split <;> omega
  simp only [List.length_cons]; omega
def six (a b c s : Nat) : List Nat := (List.range 10).flatMap fun y => [100 * a + 10 * b + y, 100 * a + 10 * y + c, 100 * y + 10 * b + c, 100 * a + 10 * y + (s + 20 - a - y) % 10, 100 * y + 10 * b + (s + 20 - b - y) % 10, 100 * y + 10 * ((s + 20 - c - y) % 10) + c]
theorem zpH (a b c s : Nat) : (six a b c s).length = 60 := rfl
theorem zqB {a b c s d0 d1 d2 : Nat} (h0 : d0 < 10) (h1 : d1 < 10) (h2 : d2 < 10)
    (h : (a = d0 /\ b = d1) ∨ (a = d0 /\ c = d2) ∨ (b = d1 /\ c = d2) ∨ (a = d0 /\ s = (d0 + d1 + d2) % 10) ∨ (b = d1 /\ s = (d0 + d1 + d2) % 10) ∨ (c = d2 /\ s = (d0 + d1 + d2) % 10)) : 100 * d0 + 10 * d1 + d2 ∈ six a b c s := by
  unfold six
  rw [List.mem_flatMap]
  rcases h with ⟨rfl, rfl⟩ | ⟨rfl, rfl⟩ | ⟨rfl, rfl⟩ | ⟨rfl, e⟩ | ⟨rfl, e⟩ | ⟨rfl, e⟩
  · exact ⟨d2, List.mem_range.2 h2, by simp⟩
  · exact ⟨d1, List.mem_range.2 h1, by simp⟩
  · exact ⟨d0, List.mem_range.2 h0, by simp⟩
  · exact ⟨d1, List.mem_range.2 h1, by have : (s + 20 - a - d1) % 10 = d2 := by omega
                                       simp [this]⟩
  · exact ⟨d0, List.mem_range.2 h0, by have : (s + 20 - b - d0) % 10 = d2 := by omega
                                       simp [this]⟩
  · exact ⟨d0, List.mem_range.2 h0, by have : (s + 20 - c - d0) % 10 = d1 := by omega
                                       simp [this]⟩
theorem zbc {ch f : Int} (h : wrN (ch, f) = 0) (hn : ch ≠ 63) : ch - 48 = f := by
 unfold wrN at h
 split at h
 ·
  rename_i hr
  simp only [rgt, Bool.or_eq_true, decide_eq_true_eq, beq_iff_eq] at hr
  exact hr.resolve_left hn
 ·
  omega
theorem zrq {x y z w : Int} (hx : 0 <= x /\ x <= 1) (hy : 0 <= y /\ y <= 1) (hz : 0 <= z /\ z <= 1) (hw : 0 <= w /\ w <= 1) (h : x + y + z + w <= 2) : (x = 0 /\ y = 0) ∨ (x = 0 /\ z = 0) ∨ (y = 0 /\ z = 0) ∨ (x = 0 /\ w = 0) ∨ (y = 0 /\ w = 0) ∨ (z = 0 /\ w = 0) := by omega
def zlt (K : Nat) (g : List (List UInt8)) (p : Nat) : Prop := ∀ j, j <= K -> chF g j p ≠ 63
def zqd (c : Cod) (l : List (List (List UInt8))) (p : Nat) : Nat := (jl c l p).length
theorem zk7 (c : Cod) (hc : jA c = true) (l : List (List (List UInt8))) (p : Nat) : zqd c l p <= 1000 := by
 have hcb := wI hc
 have h := zcR c l p (10 ^ c.fields.length)
 rw [zdg] at h
 exact Nat.le_trans h (zka hcb.1.2)
theorem zqc {c : Cod} {g : List (List UInt8)} {l : List (List (List UInt8))} {p : Nat} (hc : jA c = true) (h : zlt c.fields.length g p) : zqd c (g :: l) p <= 100 := by
 have hcb := wI hc
 have hk := zcR c (g :: l) p (10 ^ c.fields.length)
 rw [zdg] at hk
 have hK : c.fields.length <= 2 ∨ c.fields.length = 3 := by omega
 rcases hK with hK | hK
 ·
  refine Nat.le_trans hk ?_
  have : c.fields.length = 1 ∨ c.fields.length = 2 := by omega
  rcases this with e | e <;> (rw [e]; decide)
 ·
  have hch : ∀ j, j <= 3 -> chF g j p ≠ 63 := fun j hj => h j (by omega)
  have h0 := hch 0 (by omega)
  have h1 := hch 1 (by omega)
  have h2 := hch 2 (by omega)
  have h3 := hch 3 (by omega)
  unfold zqd jl
  rw [List.length_map, hK]
  refine Nat.le_trans (zly (six (chF g 0 p - 48).toNat (chF g 1 p - 48).toNat (chF g 2 p - 48).toNat (chF g 3 p - 48).toNat) _ (List.Pairwise.filter _ (List.nodup_range (n := 10 ^ 3))) fun n hn => ?_) (by rw [zpH]; decide)
  rw [List.mem_filter, List.mem_range] at hn
  obtain ⟨hn, hf⟩ := hn
  have hf0 : zbu g p (ql 3 n) <= c.most := by
   simp only [zdv, List.all_cons, Bool.and_eq_true, decide_eq_true_eq] at hf
   exact hf.1.2
  rw [← zen] at hf0
  have hd := zqn n
  have e0 : vF (ql 3 n) 0 = (n : Int) / 100 % 10 := by rw [hd]; rfl
  have e1 : vF (ql 3 n) 1 = (n : Int) / 10 % 10 := by rw [hd]; rfl
  have e2 : vF (ql 3 n) 2 = (n : Int) % 10 := by rw [hd]; rfl
  have e3 : vF (ql 3 n) 3 = ((n : Int) / 100 % 10 + ((n : Int) / 10 % 10 + ((n : Int) % 10 + 0))) % 10 := by rw [hd]; rfl
  have hsum : wrN (chF g 0 p, vF (ql 3 n) 0) + wrN (chF g 1 p, vF (ql 3 n) 1) + wrN (chF g 2 p, vF (ql 3 n) 2) + wrN (chF g 3 p, vF (ql 3 n) 3) <= 2 := by
   simp only [wsK, jB] at hf0
   omega
  have ht := zrq (zbv _) (zbv _) (zbv _) (zbv _) hsum
  have hm := zqB (a := (chF g 0 p - 48).toNat) (b := (chF g 1 p - 48).toNat) (c := (chF g 2 p - 48).toNat) (s := (chF g 3 p - 48).toNat) (d0 := n / 100) (d1 := n / 10 % 10) (d2 := n % 10) (by omega) (by omega) (by omega) (by
   rcases ht with ⟨x, y⟩ | ⟨x, y⟩ | ⟨x, y⟩ | ⟨x, y⟩ | ⟨x, y⟩ | ⟨x, y⟩
   ·
    have x := zbc x h0
    have y := zbc y h1
    exact .inl (by omega)
   ·
    have x := zbc x h0
    have y := zbc y h2
    exact .inr (.inl (by omega))
   ·
    have x := zbc x h1
    have y := zbc y h2
    exact .inr (.inr (.inl (by omega)))
   ·
    have x := zbc x h0
    have y := zbc y h3
    exact .inr (.inr (.inr (.inl (by omega))))
   ·
    have x := zbc x h1
    have y := zbc y h3
    exact .inr (.inr (.inr (.inr (.inl (by omega)))))
   ·
    have x := zbc x h2
    have y := zbc y h3
    exact .inr (.inr (.inr (.inr (.inr (by omega))))))
  have e : 100 * (n / 100) + 10 * (n / 10 % 10) + n % 10 = n := by omega
  rw [e] at hm
  exact hm
theorem znZ (g : List (List UInt8)) (A B : List (Nat × Nat)) : kT g (A ++ B) = kT g A + kT g B := by simp [kT]
theorem znc {K : Nat} {g : List (List UInt8)} {p : Nat} (h : ¬ zlt K g p) : 1 <= kT g ((List.range (K + 1)).map fun j => (p, j)) := by
 unfold zlt at h
 obtain ⟨j, hj⟩ := Classical.not_forall.1 h
 obtain ⟨hj, he⟩ := Classical.not_imp.1 hj
 have he := Classical.not_not.1 he
 unfold kT
 refine List.length_pos_of_mem (a := (p, j)) ?_
 rw [List.mem_filter]
 exact ⟨List.mem_map.2 ⟨j, List.mem_range.2 (by omega), rfl⟩, by simpa using he⟩
open Classical in
noncomputable def zci (K : Nat) (g : List (List UInt8)) (p : Nat) : Nat := if zlt K g p then 0 else 1
theorem zeC {K : Nat} {g : List (List UInt8)} (p : Nat) : zci K g p <= kT g ((List.range (K + 1)).map fun j => (p, j)) /\ zci K g p <= 1 := by
 unfold zci
 split
 ·
  omega
 ·
  rename_i h; have := znc h; omega
theorem zpf {c : Cod} {g : List (List UInt8)} (hc : jA c = true) (hg : jX c g = true) : zci c.fields.length g 0 + zci c.fields.length g 1 + zci c.fields.length g 2 + zci c.fields.length g 3 + zci c.fields.length g 4 <= 2 := by
 have h := zjH hc hg
 have e : grid c.fields.length = ((List.range (c.fields.length + 1)).map fun j => (0, j)) ++ (((List.range (c.fields.length + 1)).map fun j => (1, j)) ++ (((List.range (c.fields.length + 1)).map fun j => (2, j)) ++ (((List.range (c.fields.length + 1)).map fun j => (3, j)) ++ (((List.range (c.fields.length + 1)).map fun j => (4, j)) ++ [])))) := rfl
 rw [e] at h
 simp only [znZ] at h
 have h0 := zeC (K := c.fields.length) (g := g) 0
 have h1 := zeC (K := c.fields.length) (g := g) 1
 have h2 := zeC (K := c.fields.length) (g := g) 2
 have h3 := zeC (K := c.fields.length) (g := g) 3
 have h4 := zeC (K := c.fields.length) (g := g) 4
 omega
theorem zlm {c : Cod} {g : List (List UInt8)} {l : List (List (List UInt8))} (hc : jA c = true) (p : Nat) : (jl c (g :: l) p).length <= 100 * 10 ^ zci c.fields.length g p := by
 unfold zci
 split
 ·
  rename_i h; exact zqc hc h
 ·
  exact zk7 c hc _ p
theorem zkd {α β : Type} {f : α -> List β} {m : Nat} : ∀ (A : List α), (∀ a ∈ A, (f a).length <= m) -> (A.flatMap f).length <= A.length * m
 | [], _ => by simp
 | a :: A, h => by
  have h1 := h a (List.mem_cons_self ..)
  have h2 := zkd A (fun x hx => h x (List.mem_cons_of_mem _ hx))
  rw [List.flatMap_cons, List.length_append, List.length_cons, Nat.succ_mul]
  omega
theorem zh4 (c : Cod) (a : List Int × List Int) (L : List (List Int × List Int)) : (jnL c a L).length <= L.length := List.length_filterMap_le ..
theorem zlK (c : Cod) (A L : List (List Int × List Int)) (i : Nat) : (nxP c A L i).length <= i * L.length :=
 Nat.le_trans (zkd _ (fun a _ => zh4 c a L)) (Nat.mul_le_mul_right _ (by simp; omega))
theorem zlg (c : Cod) (l : List (List (List UInt8))) (p : Nat) : nxP c (zT c l p) (jl c l p) (zT c l p).length = zT c l (p + 1) := by
 unfold nxP; rw [List.take_length]; rfl
theorem zmW {c : Cod} {g : List (List UInt8)} {l : List (List (List UInt8))} (hc : jA c = true) : ∀ (p : Nat), (zT c (g :: l) (p + 1)).length <= (zT c (g :: l) p).length * (100 * 10 ^ zci c.fields.length g p) := fun p =>
 zkd _ (fun a _ => Nat.le_trans (zh4 c a _) (zlm hc p))
theorem zfE {c : Cod} {g : List (List UInt8)} {l : List (List (List UInt8))} (hc : jA c = true) (hg : jX c g = true) {p : Nat} (hp : p < 5) : (zT c (g :: l) p).length * (100 * 10 ^ zci c.fields.length g p) <= 1000000000000 := by
 have ha := zpf hc hg
 have key : ∀ q, (zT c (g :: l) q).length * (100 * 10 ^ zci c.fields.length g q) <= 100 ^ (q + 1) * 10 ^ ((List.range (q + 1)).map (zci c.fields.length g)).sum := by
  intro q
  induction q with
  | zero => simp [zT]
  | succ q ih =>
   have h1 := Nat.mul_le_mul_right (100 * 10 ^ zci c.fields.length g (q + 1)) (Nat.le_trans (zmW (l := l) hc q) ih)
   refine Nat.le_trans h1 (Nat.le_of_eq ?_)
   rw [List.range_succ (n := q + 1), List.map_append, List.sum_append, Nat.pow_add 10, Nat.pow_succ 100 (q + 1)]
   simp only [List.map_cons, List.map_nil, List.sum_cons, List.sum_nil, Nat.add_zero]
   ac_rfl
 refine Nat.le_trans (key p) ?_
 have hs : ((List.range (p + 1)).map (zci c.fields.length g)).sum <= 2 := by
  have : p = 0 ∨ p = 1 ∨ p = 2 ∨ p = 3 ∨ p = 4 := by omega
  rcases this with rfl | rfl | rfl | rfl | rfl <;> (simp [List.range_succ]; omega)
 exact Nat.le_trans (Nat.mul_le_mul (Nat.pow_le_pow_right (by decide) (show p + 1 <= 5 by omega)) (Nat.pow_le_pow_right (by decide) hs)) (by decide)
theorem zmz {c : Cod} {g : List (List UInt8)} {l : List (List (List UInt8))} (hc : jA c = true) (hg : jX c g = true) {p : Nat} (hp : p < 5) : (zT c (g :: l) p).length * (jl c (g :: l) p).length <= 1000000000000 /\ (zT c (g :: l) p).length <= 1000000000000 :=
 ⟨Nat.le_trans (Nat.mul_le_mul_left _ (zlm hc p)) (zfE hc hg hp), Nat.le_trans (Nat.le_mul_of_pos_right _ (Nat.mul_pos (by decide) (Nat.pow_pos (by decide)))) (zfE hc hg hp)⟩
theorem zc6 {c : Cod} {l : List (List (List UInt8))} (hc : jA c = true) : ∀ (p : Nat) (a : List Int × List Int), a ∈ zT c l p -> zpm c l.length p a
 | 0, a, h => by
  rw [zT, List.mem_singleton] at h
  subst h
  exact ⟨by simp, by simp, fun x hx => by rw [List.eq_of_mem_replicate hx]; simp, fun x hx => by rw [List.eq_of_mem_replicate hx]; simp⟩
 | p + 1, a, h => by
  have hcb := wI hc
  rw [zT, List.mem_flatMap] at h
  obtain ⟨a0, h0, h⟩ := h
  rw [List.mem_filterMap] at h
  obtain ⟨b, hb, h⟩ := h
  have ih := zc6 hc p a0 h0
  have hcol := zle hc hb
  unfold jn at h
  split at h
  ·
   rename_i hle
   injection h with h
   subst h
   refine ⟨by simp [jnR, ih.1, hcol.1], by simp [jnW, ih.2.1, hcol.2.1], fun x hx => ?_, fun x hx => ?_⟩
   ·
    obtain ⟨y, hy, z, hz, rfl⟩ := zpY hx
    have h1 := ih.2.2.1 y hy
    have h2 := hcol.2.2.1 z hz
    rw [Int.pow_succ]; omega
   ·
    have h3 : x <= c.most := by simpa using List.all_eq_true.1 hle x hx
    obtain ⟨y, hy, z, hz, rfl⟩ := zqf hx
    have h1 := ih.2.2.2 y hy
    have h2 := hcol.2.2.2 z hz
    omega
  ·
   cases h
end Go.Av
end
section
namespace Go.Av
open Go.Proofs
def jnB (c : Cod) (a b : List Int × List Int) : Bool := decide (∀ x ∈ jnW a.2 b.2, x <= c.most)
def jn1 (c : Cod) (a b : List Int × List Int) : AV := if jnB c a b then zO (jnR a.1 b.1) else .top
def jn2 (c : Cod) (a b : List Int × List Int) : AV := if jnB c a b then zO (jnW a.2 b.2) else .top
theorem zti {G : Glob} (c : Cod) {l : List (List (List UInt8))} {p : Nat} (hc : jA c = true) (hl : l.length <= 3) (hl0 : 0 < l.length) (hp : p < 5) {a b : List Int × List Int} (ha : a ∈ zT c l p) (hb : b ∈ jl c l p) :
  ACall Tryz.prog G 90 [.agg (qK c), .agg (jg a), .agg (jg b)] (.tup [.agg [jn1 c a b, jn2 c a b], .v (.bool (jnB c a b))]) := by
 have hcb := wI hc
 have h1 := zc6 hc p a ha
 have h2 := zle hc hb
 have h5 : (10 : Int) ^ p <= 100000 := by
  have : p = 0 ∨ p = 1 ∨ p = 2 ∨ p = 3 ∨ p = 4 := by omega
  rcases this with rfl | rfl | rfl | rfl | rfl <;> decide
 unfold zpm at h1
 have k1 : b.1.length = a.1.length := by omega
 have k2 : b.2.length = a.2.length := by omega
 have k3 : 0 < a.1.length /\ a.1.length <= 1000 := by omega
 have k4 : 0 < a.2.length /\ a.2.length <= 1000 := by omega
 have k5 : ∀ x ∈ a.1, 0 <= x /\ x <= 100000 := fun x hx => by have := h1.2.2.1 x hx; omega
 have k6 : ∀ x ∈ b.1, 0 <= x /\ x <= 100000 := fun x hx => by have := h2.2.2.1 x hx; omega
 have k7 : ∀ x ∈ a.2, 0 <= x /\ x <= 100000 := fun x hx => by have := h1.2.2.2 x hx; omega
 have k8 : ∀ x ∈ b.2, 0 <= x /\ x <= 100000 := fun x hx => by have := h2.2.2.2 x hx; omega
 unfold jn1 jn2 jnB
 by_cases hy : ∀ x ∈ jnW a.2 b.2, x <= c.most
 ·
  have := zpc (G := G) c a b k1 k2 k3 k4 k5 k6 k7 k8 hy
  rw [decide_eq_true hy, if_pos rfl, if_pos rfl]; exact this
 ·
  have := zrz (G := G) c a b k1 k2 k3 k4 k5 k6 k7 k8 hy
  rw [decide_eq_false hy, if_neg (by decide), if_neg (by decide)]; exact this
def nxQ (c : Cod) (A L : List (List Int × List Int)) (i k : Nat) : List (List Int × List Int) := nxP c A L i ++ jnL c (A.getD i ([], [])) (L.take k)
theorem zqR (c : Cod) (A L : List (List Int × List Int)) (i : Nat) : nxQ c A L i 0 = nxP c A L i := by simp [nxQ, jnL]
theorem xG {A : List (List Int × List Int)} {i : Nat} (h : i < A.length) : A.getD i ([], []) = A[i] := by simp [h]
theorem zkJ {A : List (List Int × List Int)} {i : Nat} (h : i < A.length) : A.getD i ([], []) ∈ A := by rw [xG h]; exact List.getElem_mem h
theorem zpg {c : Cod} {A L : List (List Int × List Int)} {i k : Nat} (h : i < A.length) (hk : L.length <= k) : nxQ c A L i k = nxP c A L (i + 1) := by
 rw [zn2 h, nxQ, List.take_of_length_le hk, xG h]
theorem zpl {c : Cod} {A L : List (List Int × List Int)} {i k : Nat} (h : k < L.length) (hb : jnB c (A.getD i ([], [])) (L.getD k ([], [])) = true) :
  jn1 c (A.getD i ([], [])) (L.getD k ([], [])) = zO (jnR (A.getD i ([], [])).1 (L.getD k ([], [])).1) /\ jn2 c (A.getD i ([], [])) (L.getD k ([], [])) = zO (jnW (A.getD i ([], [])).2 (L.getD k ([], [])).2) /\
  jo (nxQ c A L i k) ++ [[EV.pub (zO (jnR (A.getD i ([], [])).1 (L.getD k ([], [])).1)), EV.pub (zO (jnW (A.getD i ([], [])).2 (L.getD k ([], [])).2))]] = jo (nxQ c A L i (k + 1)) /\ (nxQ c A L i k).length + 1 = (nxQ c A L i (k + 1)).length := by
 have e1 : jn1 c (A.getD i ([], [])) (L.getD k ([], [])) = zO (jnR (A.getD i ([], [])).1 (L.getD k ([], [])).1) := by unfold jn1; rw [if_pos hb]
 have e2 : jn2 c (A.getD i ([], [])) (L.getD k ([], [])) = zO (jnW (A.getD i ([], [])).2 (L.getD k ([], [])).2) := by unfold jn2; rw [if_pos hb]
 refine ⟨e1, e2, ?_⟩
 unfold jnB at hb
 rw [decide_eq_true_eq, xG h] at hb
 rw [zft, xG h]
 have e3 : nxQ c A L i (k + 1) = nxQ c A L i k ++ [(jnR (A.getD i ([], [])).1 L[k].1, jnW (A.getD i ([], [])).2 L[k].2)] := by
  unfold nxQ; rw [zpO h hb, List.append_assoc]
 rw [e3]
 exact ⟨rfl, by simp⟩
theorem zrR {c : Cod} {A L : List (List Int × List Int)} {i k : Nat} (h : k < L.length) (hb : jnB c (A.getD i ([], [])) (L.getD k ([], [])) = false) : nxQ c A L i (k + 1) = nxQ c A L i k := by
 unfold jnB at hb
 rw [decide_eq_false_iff_not, xG h] at hb
 unfold nxQ; rw [zrA h hb]
theorem zqy {c : Cod} {A L : List (List Int × List Int)} {i k : Nat} (h : i < A.length) (hk : k <= L.length) : (nxQ c A L i k).length <= A.length * L.length := by
 have h1 := zlK c A L i
 have h2 := zh4 c (A.getD i ([], [])) (L.take k)
 have h3 : (i + 1) * L.length <= A.length * L.length := Nat.mul_le_mul_right _ h
 rw [Nat.succ_mul] at h3
 rw [List.length_take] at h2
 unfold nxQ
 rw [List.length_append]
 omega
theorem zfu {c : Cod} {l : List (List (List UInt8))} (hc : jA c = true) (hl0 : 0 < l.length) (hcp : ∀ g ∈ l, jX c g = true) {p : Nat} (hp : p < 5) : (zT c l p).length * (jl c l p).length <= 1000000000000 /\ (zT c l p).length <= 1000000000000 := by
 cases l with
 | nil => cases hl0
 | cons g l => exact zmz hc (hcp g (List.mem_cons_self ..)) hp
theorem zhi {A : List (List Int × List Int)} {i : Nat} (h : i < A.length) : (A.map jg)[i]? = some (jg (A.getD i ([], []))) := by simp [h]
theorem zeB {A : List (List Int × List Int)} : ∀ q ∈ A.map jg, q.length = 2 := fun q hq => by obtain ⟨x, _, rfl⟩ := List.mem_map.1 hq; rfl
def mgK (c : Cod) (A : List (List Int × List Int)) (j : Nat) : List (List Int) := ((A.take j).map (·.1)).filter (wS c)
def zbf (Y : List (List Int)) : List (List EV) := Y.map fun m => [EV.pub (zO m)]
theorem zl4 (Y : List (List Int)) : zbf Y = (Y.map fun m => [zO m]).map (·.map .pub) := by simp [zbf]
theorem zmX (Y : List (List Int)) : (zbf Y).length = Y.length := by simp [zbf]
theorem zl7 (Y : List (List Int)) : ∀ q ∈ zbf Y, q.length = 1 := fun q hq => by obtain ⟨x, _, rfl⟩ := List.mem_map.1 hq; rfl
theorem zqh {c : Cod} {A : List (List Int × List Int)} {j : Nat} (h : j < A.length) (hb : wS c (A.getD j ([], [])).1 = true) : zbf (mgK c A j) ++ [[EV.pub (zO (A.getD j ([], [])).1)]] = zbf (mgK c A (j + 1)) /\ (mgK c A j).length + 1 = (mgK c A (j + 1)).length := by
 rw [xG h] at hb ⊢
 have e : mgK c A (j + 1) = mgK c A j ++ [A[j].1] := by
  unfold mgK; rw [List.take_succ_eq_append_getElem h, List.map_append, List.filter_append]; simp [hb]
 rw [e]
 exact ⟨by simp [zbf], by simp⟩
theorem zry {c : Cod} {A : List (List Int × List Int)} {j : Nat} (h : j < A.length) (hb : wS c (A.getD j ([], [])).1 = false) : mgK c A (j + 1) = mgK c A j := by
 rw [xG h] at hb
 unfold mgK; rw [List.take_succ_eq_append_getElem h, List.map_append, List.filter_append]; simp [hb]
theorem zhm {c : Cod} {A : List (List Int × List Int)} {j : Nat} (h : A.length <= j) : mgK c A j = (A.map (·.1)).filter (wS c) := by
 unfold mgK; rw [List.take_of_length_le h]
theorem zpC (c : Cod) (A : List (List Int × List Int)) (j : Nat) : (mgK c A j).length <= A.length := by
 unfold mgK
 refine Nat.le_trans (List.length_filter_le ..) ?_
 simp; omega
theorem zkL {c : Cod} {l : List (List (List UInt8))} (hc : jA c = true) (hl0 : 0 < l.length) (hcp : ∀ g ∈ l, jX c g = true) : (zT c l 5).length <= 1000000000000 := by
 refine Nat.le_trans ?_ (zfu hc hl0 hcp (show 4 < 5 by decide)).1
 rw [← zlg]
 exact zlK ..
theorem zrd {c : Cod} {l : List (List (List UInt8))} (hc : jA c = true) (hl : l.length <= 3) (hl0 : 0 < l.length) (hcp : ∀ g ∈ l, jX c g = true) : (((zT c l 5).map (·.1)).filter (wS c)).length <= 4000000 := by
 have h1 : (zcq c l).length = (((zT c l 5).map (·.1)).filter (wS c)).length := (wF _).length_eq
 have h2 : (kC c l).length = _ := (wF _).length_eq
 rw [← h1, zcb hc hl hcp, h2]
 exact zfj hc hl0 hcp
end Go.Av
end
section
namespace Go.Av
open Go.Proofs
set_option maxRecDepth 100000
set_option maxHeartbeats 1000000
variable {G : Glob}
theorem zg7 : zau Tryz.prog 123 2 = true := by kernel_rfl
theorem zq9 (n : Nat) : (List.replicate n ([AV.v (.int .i64 0)])) = (List.replicate n (0 : Int)).map fun n => [AV.v (.int .i64 n)] := by simp
theorem zpt {c : Cod} {l : List (List (List UInt8))} {m1 m2 : Nat} (e1 : m1 = c.fields.length) (e2 : m2 = l.length) : EV.pub (.sl [[.sl (List.replicate m1 [AV.v (.int .i64 0)]), .sl (List.replicate m2 [AV.v (.int .i64 0)])]]) = .pub (.sl ((zT c l 0).map jg)) := by
 subst e1; subst e2; rw [zq9, zq9]; rfl
theorem f27 (c : Cod) (l : List (List (List UInt8))) (hc : jA c = true) (hl : l.length <= 3) (hl0 : 0 < l.length) (hcp : ∀ g ∈ l, jX c g = true) : ACall Tryz.prog G 27 [.agg (qK c), qO l] (jc (zcq c l)) := by
 have hcb := wI hc
 have h5f := zkL hc hl0 hcp
 have hmf := zrd hc hl hl0 hcp
 refine zS Tryz.func27 rfl (by kernel_rfl) rfl ?_
 refine zl (zh (zg rfl rfl (jf rfl (zY rfl)) (zg rfl rfl (zn rfl rfl) (zo (zf (zl ?_))))))
 refine qY mixed (by kernel_rfl) rfl ?_
 refine zH rfl (zu rfl rfl jS) (zH rfl (zA rfl rfl rfl zah) (zH rfl (qh rfl rfl rfl Tryz.underlying22) ?_))
 refine zH rfl (zli rfl rfl Tryz.underlying23 ti3 rfl rfl rfl (zs := [.int .i64 0]) rfl rfl rfl (by simp; omega) (by simp; omega) (by decide)) ?_
 refine zH rfl (zq rfl rfl) (zH rfl (qh rfl rfl rfl Tryz.underlying26) ?_)
 refine zH rfl (zli rfl rfl Tryz.underlying23 ti3 rfl rfl rfl (zs := [.int .i64 0]) rfl rfl rfl (by simp; omega) (by simp; omega) (by decide)) ?_
 refine zH rfl (zb3 (cs := [_, _]) rfl zkY rfl ⟨_, _, rfl, (kQ rfl), ⟨_, _, rfl, (kQ rfl), rfl⟩⟩ (by rfl) (by simp [ofV])) ?_
 refine zH rfl (qg (size := 2) (rows := [[_, _]]) rfl Tryz.underlying123 znT rfl (by decide) rfl (by decide) ⟨_, _, rfl, (zY rfl), rfl⟩ (by rfl) (by simp [ofV]) rfl (by simp)) ?_
 refine zH rfl (zW rfl rfl) (jw (zf (zl (zl (zh (zg rfl rfl (zn rfl rfl) (zo (zf (zB ?_)))))))))
 refine qy (ι := { p : Nat // p <= 5 }) (fun p => ⟨Tryz.f27.ntmps, frL [(1, .pub (qO l)), (2, .pub (.ptr (qK c))), (5, .pub (.sl ((zT c l p.1).map jg))), (6, I (p.1 : Int))], []⟩) (fun p => 5 - p.1) (⟨0, by omega⟩) ?_ ?_
 ·
  exact zt _ ⟨rfl, rfl, (zpt (by simp) (by simp)), rfl, trivial⟩ (rfl)
 ·
  rintro ⟨p, hp⟩
  dsimp only
  refine zl (zl (zh (zg rfl rfl (zi rfl rfl) (zg rfl rfl (qi rfl rfl rfl) (zo (zf (zx rfl (fun h_0 => ?_) (fun h_0 => ?_))))))))
  ·
   have hp : p < 5 := by simp only [decide_eq_true_eq] at h_0; omega
   have hpf := zfu hc hl0 hcp hp
   have hcf := zk7 c hc l p
   unfold zqd at hcf
   refine zC (zf (zl (zB (zl (zh (zg rfl rfl (zZ rfl rfl wH (by exact zLb rfl)) (zg rfl rfl (zq rfl rfl) (zg rfl rfl (zi rfl rfl) (zg rfl rfl (zy (av := [_, _, _]) rfl ⟨rfl, rfl, rfl, trivial⟩ (f89 c l p hc hl hl0 hcp hp)) (zg rfl rfl (zW rfl rfl) (zo ?_)))))))))))
   refine zf (zl (zh (zg rfl rfl (zn rfl rfl) (zo (zf (zl (zl (zh (zg rfl rfl (zn rfl rfl) (zo (zf ?_)))))))))))
   refine zB ?_
   refine qx (kG 8 rfl) ?_
   refine qy (ι := { i : Nat // i <= (zT c l p).length }) (fun i => ⟨Tryz.f27.ntmps, frL [(1, .pub (qO l)), (2, .pub (.ptr (qK c))), (5, .pub (.sl ((zT c l p).map jg))), (6, I (p : Int)), (7, .pub (.sl ((jl c l p).map jg))), (8, .psl 0 (nxP c (zT c l p) (jl c l p) i.1).length), (9, I (i.1 : Int))], [.row (jo (nxP c (zT c l p) (jl c l p) i.1))]⟩) (fun i => (zT c l p).length - i.1) (⟨0, Nat.zero_le _⟩) ?_ ?_
   ·
    exact zt _ ⟨rfl, rfl, rfl, rfl, rfl, rfl, rfl, trivial⟩ (rfl)
   ·
    rintro ⟨i, hi⟩
    dsimp only
    refine zl (zl (zh (zg rfl rfl (zi rfl rfl) (zg rfl rfl (zq rfl rfl) (zg rfl rfl (qh rfl rfl rfl Tryz.underlying123) (zg rfl rfl (qi rfl rfl rfl) (zo (zf (zx rfl (fun h_1 => ?_) (fun h_1 => ?_))))))))))
    ·
     have hi : i < (zT c l p).length := by simpa using h_1
     refine zC (zf (zl (zB (zl (zh (zg rfl rfl (zn rfl rfl) (zo (zf (zB ?_)))))))))
     refine qy (ι := { k : Nat // k <= (jl c l p).length }) (fun k => ⟨Tryz.f27.ntmps, frL [(1, .pub (qO l)), (2, .pub (.ptr (qK c))), (5, .pub (.sl ((zT c l p).map jg))), (6, I (p : Int)), (7, .pub (.sl ((jl c l p).map jg))), (8, .psl 0 (nxQ c (zT c l p) (jl c l p) i k.1).length), (9, I (i : Int)), (10, I (k.1 : Int))], [.row (jo (nxQ c (zT c l p) (jl c l p) i k.1))]⟩) (fun k => (jl c l p).length - k.1) (⟨0, Nat.zero_le _⟩) ?_ ?_
     ·
      exact zt _ ⟨rfl, rfl, rfl, rfl, rfl, (congrArg (fun z => EV.psl 0 (List.length z)) (zqR ..).symm), rfl, rfl, trivial⟩ (congrArg (fun z => [PO.row (jo z)]) (zqR ..).symm)
     ·
      rintro ⟨k, hk⟩
      dsimp only
      refine zl (zl (zh (zg rfl rfl (zi rfl rfl) (zg rfl rfl (zq rfl rfl) (zg rfl rfl (qh rfl rfl rfl Tryz.underlying123) (zg rfl rfl (qi rfl rfl rfl) (zo (zf (zx rfl (fun h_2 => ?_) (fun h_2 => ?_))))))))))
      ·
       have hk : k < (jl c l p).length := by simpa using h_2
       have hql := zqy (c := c) (A := (zT c l p)) (L := (jl c l p)) hi (Nat.le_of_lt hk)
       refine zC (zf (zl (zB (zl ?_))))
       refine qx vz ?_
       refine wR (fun _ => True) (fun k => match k with | 0 => .stable | 1 => .stable | 2 => .stable | 3 => .stable | 4 => .stable | 5 => .stable | 6 => .stable | 7 => .stable | 8 => .stable | 9 => .stable | 10 => .stable | 11 => .stable | 12 => .stable | 13 => .own 1 | 14 => .writes | 15 => .stable | _ => .here) mixed (by kernel_rfl) rfl (by kernel_rfl) trivial ?_
       refine wo rfl rfl (fun m hm => zZ rfl rfl wH (by exact zLb rfl)) (wo rfl rfl (fun m hm => zq rfl rfl) (wo rfl rfl (fun m hm => zi rfl rfl) (wo rfl rfl (fun m hm => zG rfl rfl rfl zg7 (by omega) (zhi (i := i) hi) zeB) (wo rfl rfl (fun m hm => zZ rfl rfl xX (by exact zLb rfl)) (wo rfl rfl (fun m hm => zq rfl rfl) (wo rfl rfl (fun m hm => zi rfl rfl) (wo rfl rfl (fun m hm => zG rfl rfl rfl zg7 (by omega) (zhi (i := k) hk) zeB) (wo rfl rfl (fun m hm => zZ rfl rfl xX (by exact zLb rfl)) (wo rfl rfl (fun m hm => zy (av := [_, _, _]) rfl ⟨rfl, rfl, rfl, trivial⟩ (zti c hc hl hl0 hp (a := ((zT c l p).getD i ([], []))) (b := ((jl c l p).getD k ([], []))) (zkJ hi) (zkJ hk))) (wo rfl rfl (fun m hm => zq rfl rfl) (wo rfl rfl (fun m hm => zN rfl rfl rfl) ?_)))))))))))
       refine wo rfl rfl (fun m hm => zN rfl rfl rfl) ?_
       refine zgb rfl rfl (zb1 rfl zgT rfl rfl rfl) ?_
       refine zaw rfl rfl (jk rfl rfl rfl rfl rfl rfl (zY rfl) xX (by rfl) (by rfl)) trivial ?_
       refine wo rfl rfl (fun m hm => zn rfl rfl) (wQ (zf (zl (zh (zg rfl rfl (zi rfl rfl) (zo (zf (zx rfl (fun h_3 => ?_) (fun h_3 => ?_)))))))))
       ·
        have hq := zpl (c := c) (A := (zT c l p)) (i := i) (k := k) hk h_3
        have hlen2 := hq.2.2.2
        have hrow2 := hq.2.2.1
        refine qx (zt (mem' := [.row (jo (nxQ c (zT c l p) (jl c l p) i k)), .row [[.pub (zO (jnR ((zT c l p).getD i ([], [])).1 ((jl c l p).getD k ([], [])).1)), .pub (zO (jnW ((zT c l p).getD i ([], [])).2 ((jl c l p).getD k ([], [])).2))]]]) [(1, .pub (qO l)), (2, .pub (.ptr (qK c))), (5, .pub (.sl ((zT c l p).map jg))), (6, I (p : Int)), (7, .pub (.sl ((jl c l p).map jg))), (8, .psl 0 (nxQ c (zT c l p) (jl c l p) i k).length), (9, I (i : Int)), (10, I (k : Int)), (11, .pp 1 1 0 0)] ?_ ?_) ?_
        ·
         exact ⟨rfl, rfl, rfl, rfl, rfl, rfl, rfl, rfl, rfl, trivial⟩
        ·
         exact (congrArg (fun z => [PO.row (jo (nxQ c (zT c l p) (jl c l p) i k)), PO.row [z]]) (show [EV.pub (jn1 c ((zT c l p).getD i ([], [])) ((jl c l p).getD k ([], []))), EV.pub (jn2 c ((zT c l p).getD i ([], [])) ((jl c l p).getD k ([], [])))] = _ by rw [hq.1, hq.2.1]))
        refine zh (zg rfl rfl (zI rfl rfl) (zg rfl rfl (qN (cs := [_, _]) rfl rfl rfl rfl rfl (by exact zLb rfl) rfl xX) ?_))
        refine zg rfl rfl (qg (size := 2) (rows := [[_, _]]) rfl Tryz.underlying123 znT rfl (by decide) rfl (by decide) ⟨_, _, rfl, zY rfl, rfl⟩ (by rfl) (by simp [zO]) rfl (by simp)) ?_
        refine jb rfl (vS rfl rfl rfl rfl (zgX _) rfl zq6 (zgu _) (by simp) (by simp; omega) (by unfold maxLen; simp; omega)) ?_
        refine zg rfl rfl (qo rfl rfl) (zo (zD (zf (zh (zg rfl rfl (zi rfl rfl) (zg rfl rfl (zV rfl rfl rfl ⟨(by omega), (by omega)⟩) (zg rfl rfl (zn rfl rfl) (zo ?_))))))))
        exact ⟨⟨k + 1, by omega⟩, by dsimp only; omega, Weak.trans (zt (mem' := [.row (jo (nxQ c (zT c l p) (jl c l p) i (k + 1))), PO.row [[.pub (zO (jnR ((zT c l p).getD i ([], [])).1 ((jl c l p).getD k ([], [])).1)), .pub (zO (jnW ((zT c l p).getD i ([], [])).2 ((jl c l p).getD k ([], [])).2))]]]) [(1, .pub (qO l)), (2, .pub (.ptr (qK c))), (5, .pub (.sl ((zT c l p).map jg))), (6, I (p : Int)), (7, .pub (.sl ((jl c l p).map jg))), (8, .psl 0 (nxQ c (zT c l p) (jl c l p) i (k + 1)).length), (9, I (i : Int)), (10, I ((k + 1 : Nat) : Int))] ⟨rfl, rfl, rfl, rfl, rfl, congrArg (EV.psl 0) hlen2, rfl, rfl, trivial⟩ (congrArg (fun z => [PO.row z, PO.row [[.pub (zO (jnR ((zT c l p).getD i ([], [])).1 ((jl c l p).getD k ([], [])).1)), .pub (zO (jnW ((zT c l p).getD i ([], [])).2 ((jl c l p).getD k ([], [])).2))]]]) hrow2)) (vO 1 ⟨trivial, trivial, trivial, trivial, trivial, (show 0 < 1 by omega), trivial, trivial, trivial⟩ ⟨kD _, trivial⟩)⟩
       ·
        have hq := zrR (c := c) (A := (zT c l p)) (i := i) (k := k) hk h_3
        have hlen2 := congrArg List.length hq.symm
        have hrow2 := congrArg jo hq.symm
        refine zC (zD (zf (zh (zg rfl rfl (zi rfl rfl) (zg rfl rfl (zV rfl rfl rfl ⟨(by omega), (by omega)⟩) (zg rfl rfl (zn rfl rfl) (zo ?_)))))))
        exact ⟨⟨k + 1, by omega⟩, by dsimp only; omega, Weak.trans (zt (mem' := [.row (jo (nxQ c (zT c l p) (jl c l p) i (k + 1))), PO.row [[.pub (jn1 c ((zT c l p).getD i ([], [])) ((jl c l p).getD k ([], []))), .pub (jn2 c ((zT c l p).getD i ([], [])) ((jl c l p).getD k ([], [])))]]]) [(1, .pub (qO l)), (2, .pub (.ptr (qK c))), (5, .pub (.sl ((zT c l p).map jg))), (6, I (p : Int)), (7, .pub (.sl ((jl c l p).map jg))), (8, .psl 0 (nxQ c (zT c l p) (jl c l p) i (k + 1)).length), (9, I (i : Int)), (10, I ((k + 1 : Nat) : Int))] ⟨rfl, rfl, rfl, rfl, rfl, congrArg (EV.psl 0) hlen2, rfl, rfl, trivial⟩ (congrArg (fun z => [PO.row z, PO.row [[.pub (jn1 c ((zT c l p).getD i ([], [])) ((jl c l p).getD k ([], []))), .pub (jn2 c ((zT c l p).getD i ([], [])) ((jl c l p).getD k ([], [])))]]]) hrow2)) (vO 1 ⟨trivial, trivial, trivial, trivial, trivial, (show 0 < 1 by omega), trivial, trivial, trivial⟩ ⟨kD _, trivial⟩)⟩
      ·
       have hke : (jl c l p).length <= k := by simpa using h_2
       have hqe := zpg (c := c) (A := (zT c l p)) hi hke
       refine qp (zL (zL (qw (zD (zf (zh (zg rfl rfl (zi rfl rfl) (zg rfl rfl (zV rfl rfl rfl ⟨(by omega), (by omega)⟩) (zg rfl rfl (zn rfl rfl) (zo ?_))))))))))
       exact ⟨⟨i + 1, by omega⟩, by dsimp only; omega, zt _ ⟨rfl, rfl, rfl, rfl, rfl, (congrArg (fun z => EV.psl 0 (List.length z)) hqe), rfl, trivial⟩ (congrArg (fun z => [PO.row (jo z)]) hqe)⟩
    ·
     have hie : i = (zT c l p).length := Nat.le_antisymm hi (by simpa using h_1)
     have hnx : nxP c (zT c l p) (jl c l p) i = zT c l (p + 1) := by rw [hie, zlg]
     refine qp (zL (zL (qw (zf ?_))))
     refine qx (zcT (k := 0) (m := (nxP c (zT c l p) (jl c l p) i).length) (rows := (nxP c (zT c l p) (jl c l p) i).map jg) [8] ?_ ?_ ?_) ?_
     ·
      exact (congrArg (fun z => some (PO.row z)) (zgN _))
     ·
      exact List.length_map ..
     ·
      intro d hd; rw [List.mem_singleton] at hd; subst hd; rfl
     refine zh (zg rfl rfl (zq rfl rfl) (zg rfl rfl (zW rfl rfl) (zo (zD (zf (zh (zg rfl rfl (zi rfl rfl) (zg rfl rfl (zV rfl rfl rfl ⟨(by omega), (by omega)⟩) (zg rfl rfl (zn rfl rfl) (zo ?_))))))))))
     exact ⟨⟨p + 1, by omega⟩, by dsimp only; omega, Weak.trans (zt (mem' := [.dead]) [(1, .pub (qO l)), (2, .pub (.ptr (qK c))), (5, .pub (.sl ((zT c l (p + 1)).map jg))), (6, I ((p + 1 : Nat) : Int))] ⟨rfl, rfl, congrArg (fun z => EV.pub (.sl (List.map jg z))) hnx, rfl, trivial⟩ rfl) (vO 0 ⟨trivial, trivial, trivial, trivial, trivial⟩ trivial)⟩
  ·
   have hp5 : p = 5 := by simp only [decide_eq_false_iff_not] at h_0; omega
   refine qp (zL (zL (qw (zf (zl (zh (zg rfl rfl (zn rfl rfl) (zo (zf (zl (zl ?_)))))))))))
   refine zh (zg rfl rfl (zn rfl rfl) (zo (zf (zB ?_))))
   refine qx (kG 13 rfl) ?_
   refine qy (ι := { j : Nat // j <= (zT c l 5).length }) (fun j => ⟨Tryz.f27.ntmps, frL [(2, .pub (.ptr (qK c))), (5, .pub (.sl ((zT c l 5).map jg))), (13, .psl 0 (mgK c (zT c l 5) j.1).length), (14, I (j.1 : Int))], [.row (zbf (mgK c (zT c l 5) j.1))]⟩) (fun j => (zT c l 5).length - j.1) (⟨0, Nat.zero_le _⟩) ?_ ?_
   ·
    exact zt _ ⟨rfl, (congrArg (fun z => EV.pub (.sl ((zT c l z).map jg))) hp5), rfl, rfl, trivial⟩ (rfl)
   ·
    rintro ⟨j, hj⟩
    dsimp only
    refine zl (zl (zh (zg rfl rfl (zi rfl rfl) (zg rfl rfl (zq rfl rfl) (zg rfl rfl (qh rfl rfl rfl Tryz.underlying123) (zg rfl rfl (qi rfl rfl rfl) (zo (zf (zx rfl (fun h_4 => ?_) (fun h_4 => ?_))))))))))
    ·
     have hj : j < (zT c l 5).length := by simpa using h_4
     have hpo := zc6 hc 5 _ (zkJ hj)
     unfold zpm at hpo
     have hml := zpC c (zT c l 5) j
     refine zC (zf (zl (zB (zl ?_))))
     refine qY mixed (by kernel_rfl) rfl ?_
     refine zH rfl (zZ rfl rfl wH (by exact zLb rfl)) (zH rfl (zq rfl rfl) (zH rfl (zi rfl rfl) (zH rfl (zG rfl rfl rfl zg7 (by omega) (zhi (i := j) hj) zeB) (zH rfl (zu rfl rfl wK) (zH rfl (zA rfl rfl rfl jO) (zH rfl (zy (av := [_, _]) rfl ⟨rfl, rfl, trivial⟩ (f32 c ((zT c l 5).getD j ([], [])).1 (by omega))) (jw (zf (zx rfl (fun h_5 => ?_) (fun h_5 => ?_))))))))))
     ·
      have hq := zqh hj h_5
      have hlen3 := hq.2
      have hrow3 := hq.1
      refine zh (zg rfl rfl (zI rfl rfl) (zg rfl rfl (zq rfl rfl) (zg rfl rfl (zi rfl rfl) (zg rfl rfl (zG rfl rfl rfl zg7 (by omega) (zhi (i := j) hj) zeB) (zg rfl rfl (zu rfl rfl wK) (zg rfl rfl (zA rfl rfl rfl jO) ?_))))))
      refine zg rfl rfl (qg (size := 1) (rows := [[_]]) rfl Tryz.underlying30 zmt rfl (by decide) rfl (by decide) ⟨_, _, rfl, (kQ rfl), rfl⟩ (by rfl) (by simp [ofV]) rfl (by simp)) ?_
      refine jb rfl (vS rfl rfl rfl rfl (zmX _) rfl zo9 (zl7 _) (by simp) (by simp; omega) (by unfold maxLen; simp; omega)) ?_
      refine zg rfl rfl (qo rfl rfl) (zo (zD (zf (zh (zg rfl rfl (zi rfl rfl) (zg rfl rfl (zV rfl rfl rfl ⟨(by omega), (by omega)⟩) (zg rfl rfl (zn rfl rfl) (zo ?_))))))))
      exact ⟨⟨j + 1, by omega⟩, by dsimp only; omega, zt (mem' := [.row (zbf (mgK c (zT c l 5) (j + 1)))]) [(2, .pub (.ptr (qK c))), (5, .pub (.sl ((zT c l 5).map jg))), (13, .psl 0 (mgK c (zT c l 5) (j + 1)).length), (14, I ((j + 1 : Nat) : Int))] ⟨rfl, rfl, congrArg (EV.psl 0) hlen3, rfl, trivial⟩ (congrArg (fun z => [PO.row z]) hrow3)⟩
     ·
      have hq := zry hj h_5
      have hlen3 := congrArg List.length hq.symm
      have hrow3 := congrArg zbf hq.symm
      refine zC (zD (zf (zh (zg rfl rfl (zi rfl rfl) (zg rfl rfl (zV rfl rfl rfl ⟨(by omega), (by omega)⟩) (zg rfl rfl (zn rfl rfl) (zo ?_)))))))
      exact ⟨⟨j + 1, by omega⟩, by dsimp only; omega, zt (mem' := [.row (zbf (mgK c (zT c l 5) (j + 1)))]) [(2, .pub (.ptr (qK c))), (5, .pub (.sl ((zT c l 5).map jg))), (13, .psl 0 (mgK c (zT c l 5) (j + 1)).length), (14, I ((j + 1 : Nat) : Int))] ⟨rfl, rfl, congrArg (EV.psl 0) hlen3, rfl, trivial⟩ (congrArg (fun z => [PO.row z]) hrow3)⟩
    ·
     have hje : (zT c l 5).length <= j := by simpa using h_4
     have hmm : ∀ m ∈ (mgK c (zT c l 5) j), m.length <= 1000 := by
      intro m hm
      rw [zhm hje, List.mem_filter] at hm
      obtain ⟨a, ha, rfl⟩ := List.mem_map.1 hm.1
      have := zc6 hc 5 a ha
      unfold zpm at this; omega
     refine qp (zL (zL (qw (zf (zl ?_)))))
     refine qx (zcT (k := 0) (m := (mgK c (zT c l 5) j).length) (rows := (mgK c (zT c l 5) j).map fun m => [zO m]) [13] ?_ ?_ ?_) ?_
     ·
      exact (congrArg (fun z => some (PO.row z)) (zl4 _))
     ·
      exact List.length_map ..
     ·
      intro d hd; rw [List.mem_singleton] at hd; subst hd; rfl
     refine zh (zg rfl rfl (zq rfl rfl) ?_)
     refine zg rfl rfl (zy (av := [_]) rfl ⟨rfl, trivial⟩ (f91 _ (mgK c (zT c l 5) j) (Nat.le_refl _) (by rw [zhm (by omega)]; exact hmf) hmm)) ?_
     refine zg rfl rfl (zW rfl rfl) (zo (zf (zP ?_)))
     exact ⟨.inr rfl, AVle.of (by unfold zcq; rw [zhm (by omega)])⟩
end Go.Av
end
