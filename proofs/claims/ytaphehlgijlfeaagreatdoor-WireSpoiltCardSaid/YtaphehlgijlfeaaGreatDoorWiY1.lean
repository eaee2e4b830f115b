
import Derived.Test.YtaphehlgijlfeaaGreatDoorWiP1
import Derived.Lib.ItoaNum
import Derived.Lib.Join
import Derived.Test.YtaphehlgijlfeaaGreatDoorExA
import Derived.Test.YtaphehlgijlfeaaGreatDoorLibC
set_option linter.unusedVariables false
set_option linter.unusedSimpArgs false
section
namespace Go.Av
open Go.Proofs
set_option maxRecDepth 100000
theorem zAn (c : UInt8) (x y : List UInt8) (r : List (List UInt8)) : Lib.join (x :: y :: r) [c] = x ++ c :: Lib.join (y :: r) [c] := by
 rw [Lib.join_cons, Lib.join_cons]
 simp [Lib.joinTail]
def zAA (ws : List (List UInt8)) : List UInt8 := Lib.join ws [32] ++ [10]
def wNo : List UInt8 := [110, 111]
def wWd : List UInt8 := [119, 111, 114, 100, 115]
def zAQ : List UInt8 := [101, 110, 100]
def wtk (i : Int) : Nat -> List UInt8 -> Int
 | _, [] => 0
 | p, b :: t => (b.toNat : Int) * ((p : Int) + 1) * (i + 1) + wtk i (p + 1) t
def wts : Nat -> List (List UInt8) -> Int
 | _, [] => 0
 | i, t :: ts => wtk (i : Int) 0 t + wts (i + 1) ts
theorem zCE (i : Int) : ∀ (a b : List UInt8) (p : Nat), wtk i p (a ++ b) = wtk i p a + wtk i (p + a.length) b
 | [], b, p => by simp [wtk]
 | x :: a, b, p => by
  rw [List.cons_append, wtk, wtk, zCE i a b (p + 1), List.length_cons, show p + 1 + a.length = p + (a.length + 1) by omega]; omega
theorem zCG : ∀ (a b : List (List UInt8)) (i : Nat), wts i (a ++ b) = wts i a + wts (i + a.length) b
 | [], b, i => by simp [wts]
 | x :: a, b, i => by
  rw [List.cons_append, wts, wts, zCG a b (i + 1), List.length_cons, show i + 1 + a.length = i + (a.length + 1) by omega]; omega
theorem zCd {i : Int} {t : List UInt8} {k : Nat} (h : k < t.length) : wtk i 0 (t.take (k + 1)) = wtk i 0 (t.take k) + (t[k].toNat : Int) * ((k : Int) + 1) * (i + 1) := by
 rw [List.take_succ_eq_append_getElem h, zCE]
 have : (t.take k).length = k := by simp; omega
 simp [wtk, this]
theorem zBd {ts : List (List UInt8)} {k : Nat} (h : k < ts.length) : wts 0 (ts.take (k + 1)) = wts 0 (ts.take k) + wtk (k : Int) 0 ts[k] := by
 rw [List.take_succ_eq_append_getElem h, zCG]
 have : (ts.take k).length = k := by simp; omega
 simp [wts, this]
def ckT (n : Int) (ts : List (List UInt8)) : Int := (n + wts 0 ts) % 101
def d3 (s : Int) : List UInt8 := Lib.itoa (s / 100) ++ Lib.itoa (s / 10 % 10) ++ Lib.itoa (s % 10)
def zAo (m : Nat) : Nat -> List (List UInt8) -> List UInt8
 | _, [] => []
 | i, t :: ts => t ++ [if i % 5 = 4 ∨ i + 1 = m then 10 else 32] ++ zAo m (i + 1) ts
theorem zCj (m : Nat) : ∀ (a b : List (List UInt8)) (i : Nat), zAo m i (a ++ b) = zAo m i a ++ zAo m (i + a.length) b
 | [], b, i => by simp [zAo]
 | x :: a, b, i => by
  rw [List.cons_append, zAo, zAo, zCj m a b (i + 1), List.length_cons, show i + 1 + a.length = i + (a.length + 1) by omega]
  simp
def txt (n : Int) (ts : List (List UInt8)) : List UInt8 := wNo ++ [32] ++ Lib.itoa n ++ [32] ++ wWd ++ [32] ++ Lib.itoa (ts.length : Int) ++ [10] ++ zAo ts.length 0 ts ++ (zAQ ++ [32] ++ d3 (ckT n ts) ++ [10])
def tkR (r : Int) : Bool := zl8 r || zCl r || zf4 r
def zAq (n : Int) (ts : List (List UInt8)) : Bool := decide (0 <= n /\ n <= 9999) && ts.all (ofB tkR)
theorem zD5 {r : Int} (h : tkR r = true) : 48 <= r /\ r <= 122 := by
 simp only [tkR, zl8, zCl, zf4, Bool.or_eq_true, Bool.and_eq_true, decide_eq_true_eq] at h; omega
def ham : List UInt8 -> List UInt8 -> Nat
 | a :: l, b :: m => (if a = b then 0 else 1) + ham l m
 | _, _ => 0
theorem zAr : ∀ a, ham a a = 0
 | [] => rfl
 | x :: a => by rw [ham, if_pos rfl, zAr a]
theorem zAt : ∀ {a a' b b' : List UInt8}, a.length = a'.length -> ham (a ++ b) (a' ++ b') = ham a a' + ham b b'
 | [], [], b, b', _ => by simp [ham]
 | x :: a, y :: a', b, b', h => by
  rw [List.cons_append, List.cons_append, ham, ham, zAt (by simpa using h)]; omega
theorem zAS : ∀ {a b : List UInt8}, a.length = b.length -> ham a b = 0 -> a = b
 | [], [], _, _ => rfl
 | x :: a, y :: b, h, h0 => by
  rw [ham] at h0
  split at h0
  ·
   rename_i e; rw [e, zAS (a := a) (b := b) (by simpa using h) (by omega)]
  ·
   omega
theorem zCL : ∀ (s : List UInt8) (i : Nat) (x : UInt8), ham s (s.set i x) <= 1
 | [], i, x => by simp [ham]
 | y :: s, 0, x => by rw [List.set_cons_zero, ham, zAr]; split <;> omega
 | y :: s, i + 1, x => by rw [List.set_cons_succ, ham, if_pos rfl]; have := zCL s i x; omega
theorem u8n {a b : UInt8} (h : a ≠ b) : a.toNat ≠ b.toNat := fun e => h (UInt8.toNat_inj.1 e)
theorem zDO : ∀ {w v : List UInt8}, w.length = v.length -> w.length <= 4 -> (∀ x ∈ w, 48 <= x.toNat /\ x.toNat <= 57) -> (∀ x ∈ v, 48 <= x.toNat /\ x.toNat <= 57) -> ham w v <= 1 -> ∀ X : Int, (zAz w + X) % 101 = (zAz v + X) % 101 -> w = v := by
 intro w v hl h4 hw hv hh X hx
 refine zAS hl ?_
 match w, v, hl, h4 with
 | [], [], _, _ => rfl
 | [a], [a'], _, _ =>
  have h1 := hw a (by simp); have h2 := hv a' (by simp)
  simp only [ham, zAz, List.foldl_cons, List.foldl_nil] at hh hx ⊢
  split
  ·
   rfl
  ·
   rename_i e; have := u8n e; exfalso; omega
 | [a, b], [a', b'], _, _ =>
  have h1 := hw a (by simp); have h2 := hv a' (by simp); have h3 := hw b (by simp); have h5 := hv b' (by simp)
  simp only [ham, zAz, List.foldl_cons, List.foldl_nil] at hh hx ⊢
  by_cases e1 : a = a' <;> by_cases e2 : b = b' <;> simp only [e1, e2, if_true, if_false] at hh ⊢
  ·
   subst e1; have := u8n e2; exfalso; omega
  ·
   subst e2; have := u8n e1; exfalso; omega
  ·
   omega
 | [a, b, c], [a', b', c'], _, _ =>
  have h1 := hw a (by simp); have h2 := hv a' (by simp); have h3 := hw b (by simp); have h5 := hv b' (by simp); have h6 := hw c (by simp); have h7 := hv c' (by simp)
  simp only [ham, zAz, List.foldl_cons, List.foldl_nil] at hh hx ⊢
  by_cases e1 : a = a' <;> by_cases e2 : b = b' <;> by_cases e3 : c = c' <;> simp only [e1, e2, e3, if_true, if_false] at hh ⊢ <;> first
   | omega
   | (subst e1; subst e2; have := u8n e3; exfalso; omega)
   | (subst e1; subst e3; have := u8n e2; exfalso; omega)
   | (subst e2; subst e3; have := u8n e1; exfalso; omega)
 | [a, b, c, d], [a', b', c', d'], _, _ =>
  have h1 := hw a (by simp); have h2 := hv a' (by simp); have h3 := hw b (by simp); have h5 := hv b' (by simp); have h6 := hw c (by simp); have h7 := hv c' (by simp); have h8 := hw d (by simp); have h9 := hv d' (by simp)
  simp only [ham, zAz, List.foldl_cons, List.foldl_nil] at hh hx ⊢
  by_cases e1 : a = a' <;> by_cases e2 : b = b' <;> by_cases e3 : c = c' <;> by_cases e4 : d = d' <;> simp only [e1, e2, e3, e4, if_true, if_false] at hh ⊢ <;> first
   | omega
   | (subst e1; subst e2; subst e3; have := u8n e4; exfalso; omega)
   | (subst e1; subst e2; subst e4; have := u8n e3; exfalso; omega)
   | (subst e1; subst e3; subst e4; have := u8n e2; exfalso; omega)
   | (subst e2; subst e3; subst e4; have := u8n e1; exfalso; omega)
theorem zDs {x y : UInt8} {p i : Nat} (hp : p <= 4) (hi : i <= 7) (hn : x ≠ y) (hx : 48 <= (x.toNat : Int) /\ (x.toNat : Int) <= 122) (hy : 48 <= (y.toNat : Int) /\ (y.toNat : Int) <= 122) (Y : Int) (h : (Y + (x.toNat : Int) * ((p : Int) + 1) * ((i : Int) + 1)) % 101 = (Y + (y.toNat : Int) * ((p : Int) + 1) * ((i : Int) + 1)) % 101) : False := by
 have hn2 := u8n hn
 generalize x.toNat = a at *
 generalize y.toNat = b at *
 have hp2 : p = 0 ∨ p = 1 ∨ p = 2 ∨ p = 3 ∨ p = 4 := by omega
 have hi2 : i = 0 ∨ i = 1 ∨ i = 2 ∨ i = 3 ∨ i = 4 ∨ i = 5 ∨ i = 6 ∨ i = 7 := by omega
 rcases hp2 with rfl | rfl | rfl | rfl | rfl <;> rcases hi2 with rfl | rfl | rfl | rfl | rfl | rfl | rfl | rfl <;> omega
theorem zCJ {i : Nat} (hi : i <= 7) : ∀ {t u : List UInt8} {p : Nat}, t.length = u.length -> p + t.length <= 5 -> (∀ b ∈ t, 48 <= (b.toNat : Int) /\ (b.toNat : Int) <= 122) -> (∀ b ∈ u, 48 <= (b.toNat : Int) /\ (b.toNat : Int) <= 122) -> ham t u <= 1 -> ∀ X : Int, (X + wtk (i : Int) p t) % 101 = (X + wtk (i : Int) p u) % 101 -> t = u
 | [], [], _, _, _, _, _, _, _, _ => rfl
 | a :: t, b :: u, p, hl, hp, ht, hu, hh, X, hx => by
  rw [ham] at hh
  rw [wtk, wtk] at hx
  have hl2 : t.length = u.length := by simpa using hl
  have hp2 : p + 1 + t.length <= 5 := by rw [List.length_cons] at hp; omega
  by_cases e : a = b
  ·
   subst e
   rw [if_pos rfl] at hh
   rw [zCJ hi hl2 hp2 (fun x h => ht x (List.mem_cons_of_mem _ h)) (fun x h => hu x (List.mem_cons_of_mem _ h)) (by omega) (X + (a.toNat : Int) * ((p : Int) + 1) * ((i : Int) + 1)) (by rw [Int.add_assoc, hx, Int.add_assoc])]
  ·
   rw [if_neg e] at hh
   have e2 := zAS hl2 (by omega)
   subst e2
   exfalso
   refine zDs (p := p) (by omega) hi e (ht a (List.mem_cons_self ..)) (hu b (List.mem_cons_self ..)) (X + wtk (i : Int) (p + 1) t) ?_
   rw [Int.add_right_comm, Int.add_assoc, hx, Int.add_right_comm X, Int.add_assoc]
theorem zAT {t : List UInt8} (h : ofB tkR t = true) : t.length = 5 /\ ∀ b ∈ t, 48 <= (b.toNat : Int) /\ (b.toNat : Int) <= 122 := by
 simp only [ofB, Bool.and_eq_true, List.all_eq_true, decide_eq_true_eq] at h
 exact ⟨h.2, fun b hb => zD5 (h.1 b hb)⟩
theorem zAO (m : Nat) : ∀ {ts : List (List UInt8)} {i : Nat}, ts.all (ofB tkR) = true -> (zAo m i ts).length = 6 * ts.length
 | [], _, _ => rfl
 | t :: ts, i, h => by
  rw [List.all_cons, Bool.and_eq_true] at h
  rw [zAo, List.length_append, zAO m h.2, List.length_append, (zAT h.1).1, List.length_cons, List.length_cons, List.length_nil]; omega
theorem zA9 {m : Nat} : ∀ {ts us : List (List UInt8)} {i : Nat}, ts.length = us.length -> ts.all (ofB tkR) = true -> us.all (ofB tkR) = true -> zAo m i ts = zAo m i us -> ts = us
 | [], [], _, _, _, _, _ => rfl
 | t :: ts, u :: us, i, h, h1, h2, h3 => by
  rw [List.all_cons, Bool.and_eq_true] at h1 h2
  rw [zAo, zAo, List.append_assoc, List.append_assoc] at h3
  have h4 := List.append_inj h3 ((zAT h1.1).1.trans (zAT h2.1).1.symm)
  have h5 := (List.append_inj h4.2 rfl).2
  rw [h4.1, zA9 (by simpa using h) h1.2 h2.2 h5]
theorem zCO {m : Nat} : ∀ {ts us : List (List UInt8)} {i : Nat}, ts.length = us.length -> i + ts.length <= 8 -> ts.all (ofB tkR) = true -> us.all (ofB tkR) = true -> ham (zAo m i ts) (zAo m i us) <= 1 -> ∀ X : Int, (X + wts i ts) % 101 = (X + wts i us) % 101 -> ts = us
 | [], [], _, _, _, _, _, _, _, _ => rfl
 | t :: ts, u :: us, i, hl, hi, ht, hu, hh, X, hx => by
  rw [List.all_cons, Bool.and_eq_true] at ht hu
  have hl2 : ts.length = us.length := by simpa using hl
  have hi2 : i + 1 + ts.length <= 8 := by rw [List.length_cons] at hi; omega
  have b1 := zAT ht.1
  have b2 := zAT hu.1
  have e5 : t.length = u.length := b1.1.trans b2.1.symm
  rw [zAo, zAo, List.append_assoc, List.append_assoc, zAt e5, zAt (by rfl), zAr] at hh
  rw [wts, wts] at hx
  by_cases e : ham t u = 0
  ·
   have := zAS e5 e
   subst this
   rw [zCO (m := m) hl2 hi2 ht.2 hu.2 (by omega) (X + wtk (i : Int) 0 t) (by rw [Int.add_assoc, hx, Int.add_assoc])]
  ·
   have h0 : ts = us := by
    have hb : zAo m (i + 1) ts = zAo m (i + 1) us := zAS (by rw [zAO m ht.2, zAO m hu.2, hl2]) (by omega)
    exact zA9 hl2 ht.2 hu.2 hb
   subst h0
   rw [zCJ (i := i) (p := 0) (by omega) e5 (by omega) b1.2 b2.2 (by omega) (X + wts (i + 1) ts) (by rw [Int.add_right_comm, Int.add_assoc, hx, Int.add_right_comm X, Int.add_assoc])]
theorem zDS : ∀ (u : Nat), ∀ x ∈ Lib.decDigits u, 48 <= x.toNat /\ x.toNat <= 57 := by
 intro u
 induction u using Nat.strongRecOn with
 | _ u ih =>
  intro x hx
  rw [Lib.decDigits] at hx
  split at hx
  ·
   simp only [List.mem_singleton] at hx; subst hx
   have : (UInt8.ofNat (48 + u)).toNat = 48 + u := by rw [UInt8.toNat_ofNat']; omega
   omega
  ·
   rcases List.mem_append.1 hx with hx | hx
   ·
    exact ih (u / 10) (by omega) x hx
   ·
    simp only [List.mem_singleton] at hx; subst hx
    have : (UInt8.ofNat (48 + u % 10)).toNat = 48 + u % 10 := by rw [UInt8.toNat_ofNat']; omega
    omega
theorem zAx {n : Int} (h : 0 <= n) : ∀ x ∈ Lib.itoa n, 48 <= x.toNat /\ x.toNat <= 57 := fun x hx => by
 unfold Lib.itoa at hx
 rw [if_neg (by omega)] at hx
 exact zDS _ x hx
theorem zBE (w : List UInt8) (c : UInt8) : zAz (w ++ [c]) = 10 * zAz w + ((c.toNat : Int) - 48) := by simp [zAz]
theorem zDd : ∀ (u : Nat), zAz (Lib.decDigits u) = u := by
 intro u
 induction u using Nat.strongRecOn with
 | _ u ih =>
  rw [Lib.decDigits]
  split
  ·
   rename_i h
   have : (UInt8.ofNat (48 + u)).toNat = 48 + u := by rw [UInt8.toNat_ofNat']; omega
   simp only [zAz, List.foldl_cons, List.foldl_nil, this]; omega
  ·
   rw [zBE, ih (u / 10) (by omega)]
   have : (UInt8.ofNat (48 + u % 10)).toNat = 48 + u % 10 := by rw [UInt8.toNat_ofNat']; omega
   rw [this]; omega
theorem zAu {n : Int} (h : 0 <= n) : zAz (Lib.itoa n) = n := by
 unfold Lib.itoa
 rw [if_neg (by omega), zDd]; omega
theorem zCQ : ∀ (k u : Nat), 1 <= k -> u < 10 ^ k -> (Lib.decDigits u).length <= k
 | 0, _, h, _ => absurd h (by decide)
 | k + 1, u, _, h => by
  rw [Lib.decDigits]
  split
  ·
   simp
  ·
   rename_i hu
   have hk : 1 <= k := by
    cases k with
    | zero => simp at h; omega
    | succ k => omega
   have := zCQ k (u / 10) hk (by rw [Nat.pow_succ] at h; omega)
   simp only [List.length_append, List.length_cons, List.length_nil]; omega
theorem zDA (u : Nat) : 1 <= (Lib.decDigits u).length := by
 rw [Lib.decDigits]
 split <;> simp
theorem zAN {n : Int} (h : 0 <= n /\ n <= 9999) : 1 <= (Lib.itoa n).length /\ (Lib.itoa n).length <= 4 := by
 unfold Lib.itoa; rw [if_neg (by omega)]
 exact ⟨zDA _, zCQ 4 _ (by decide) (by show n.toNat < 10000; omega)⟩
theorem zBN {n : Int} (h : 0 <= n /\ n <= 9) : Lib.itoa n = [chD n] := by
 unfold Lib.itoa; rw [if_neg (by omega), Lib.decDigits, dif_pos (by omega)]
 unfold chD; rw [show (48 + n).toNat = 48 + n.toNat by omega]
theorem zBG {x y : Int} (hx : 0 <= x /\ x <= 9) (hy : 0 <= y /\ y <= 9) (h : chD x = chD y) : x = y := by
 have h1 := zhE hx
 have h2 := zhE hy
 rw [h] at h1; omega
theorem zBD {s : Int} (h : 0 <= s /\ s <= 100) : d3 s = [chD (s / 100), chD (s / 10 % 10), chD (s % 10)] := by
 unfold d3; rw [zBN (by omega), zBN (by omega), zBN (by omega)]; rfl
theorem zEf {s r : Int} (h : 0 <= s /\ s <= 100) (h2 : 0 <= r /\ r <= 100) (e : d3 s = d3 r) : s = r := by
 rw [zBD h, zBD h2] at e
 simp only [List.cons.injEq, and_true] at e
 have e1 := zBG (by omega) (by omega) e.1
 have e2 := zBG (by omega) (by omega) e.2.1
 have e3 := zBG (by omega) (by omega) e.2.2
 omega
theorem zAV (n : Int) (ts : List (List UInt8)) : 0 <= ckT n ts /\ ckT n ts <= 100 := by unfold ckT; omega
theorem zBM {n : Int} {ts : List (List UInt8)} (h : zAq n ts = true) (hl : ts.length <= 8) : (txt n ts).length = (Lib.itoa n).length + 6 * ts.length + 20 := by
 simp only [zAq, Bool.and_eq_true, decide_eq_true_eq] at h
 unfold txt
 simp only [List.length_append, zAO _ h.2, zBD (zAV n ts), zBN (n := (ts.length : Int)) (by omega), List.length_cons, List.length_nil, wNo, wWd, zAQ]
 omega
theorem zDV {n k : Int} {ts us : List (List UInt8)} (h1 : zAq n ts = true) (h2 : zAq k us = true) (l1 : ts.length <= 8) (l2 : us.length <= 8) (hl : (txt n ts).length = (txt k us).length) (hh : ham (txt n ts) (txt k us) <= 1) : n = k /\ ts = us := by
 rw [zBM h1 l1, zBM h2 l2] at hl
 simp only [zAq, Bool.and_eq_true, decide_eq_true_eq] at h1 h2
 have i1 := zAN h1.1
 have i2 := zAN h2.1
 have el : ts.length = us.length := by omega
 have en : (Lib.itoa n).length = (Lib.itoa k).length := by omega
 have b1 := zAO us.length (i := 0) h1.2
 have b2 := zAO us.length (i := 0) h2.2
 have c1 := zAV n ts
 have c2 := zAV k us
 have e3 : (d3 (ckT n ts)).length = (d3 (ckT k us)).length := by rw [zBD c1, zBD c2]; rfl
 unfold txt at hh
 rw [el] at hh
 simp only [List.append_assoc] at hh
 rw [zAt rfl, zAr, zAt rfl, zAr, zAt en, zAt rfl, zAr, zAt rfl, zAr, zAt rfl, zAr, zAt rfl, zAr, zAt rfl, zAr, zAt (by rw [b1, b2, el]), zAt rfl, zAr, zAt rfl, zAr, zAt e3, zAr] at hh
 have m1 := zAx h1.1.1
 have m2 := zAx h2.1.1
 by_cases hd : ham (d3 (ckT n ts)) (d3 (ckT k us)) = 0
 ·
  have hc : ckT n ts = ckT k us := zEf c1 c2 (zAS e3 hd)
  unfold ckT at hc
  by_cases hb : ham (zAo us.length 0 ts) (zAo us.length 0 us) = 0
  ·
   have e4 : ts = us := zA9 el h1.2 h2.2 (zAS (by rw [b1, b2, el]) hb)
   subst e4
   have e5 := zDO en i1.2 m1 m2 (by omega) (wts 0 ts) (by rw [zAu h1.1.1, zAu h2.1.1]; exact hc)
   refine ⟨?_, rfl⟩
   have := congrArg zAz e5
   rwa [zAu h1.1.1, zAu h2.1.1] at this
  ·
   have e5 := zAS en (by omega)
   have e6 := congrArg zAz e5
   rw [zAu h1.1.1, zAu h2.1.1] at e6
   subst e6
   exact ⟨rfl, zCO (m := us.length) (i := 0) el (by omega) h1.2 h2.2 (by omega) n hc⟩
 ·
  have e5 := zAS en (by omega)
  have e6 := congrArg zAz e5
  rw [zAu h1.1.1, zAu h2.1.1] at e6
  exact ⟨e6, zA9 el h1.2 h2.2 (zAS (by rw [b1, b2, el]) (by omega))⟩
end Go.Av
end
section
namespace Go.Av
open Go.Proofs Go.RowKit Go.Bv
set_option maxRecDepth 100000
theorem f161 (n : Int) (h : -9223372036854775808 <= n /\ n <= 9223372036854775807) : ACall Tryz.prog GT 161 [.v (.int .i64 n)] (eS (Lib.itoa n)) := by
 refine ⟨zsN.1, fun ok w vs hG hok hf => ?_⟩
 simp only [FitsL, Fits] at hf
 obtain ⟨u, us, rfl, ⟨rfl, _⟩, rfl⟩ := hf
 refine (zsN.2 n w h.1 h.2 (gT w hG)).mono fun e w' ⟨he, hb⟩ => ⟨_, he, hb, by simp only [Fits]; exact ⟨trivial, rfl⟩⟩
theorem zCu {ok : Nat -> Prop} {w : World} {b off : Nat} {l : List (List UInt8)} (h : FitsR ok w b off (l.map fun s => [eS s])) :
  ∀ (j : Nat) x, (l.map fun s => (⟨s.toArray⟩ : ByteArray))[j]? = some x -> w.cell? ⟨b, off + j, none⟩ = some (.string x) := fun j x hx => by
 rw [List.getElem?_map] at hx
 cases hs : l[j]? with
 | none => rw [hs] at hx; cases hx
 | some s =>
  rw [hs] at hx
  injection hx with hx
  subst hx
  have := FitsR.get (size := 1) (i := j) (r := [eS s]) h (fun r hr => by obtain ⟨s, _, rfl⟩ := List.mem_map.1 hr; rfl) (by rw [List.getElem?_map, hs]; rfl)
  simp only [FitsC, Fits] at this
  obtain ⟨⟨u, k1, _, k3, _⟩, _⟩ := this
  rw [k3] at k1
  simpa using k1
theorem f175 (l : List (List UInt8)) (sep : List UInt8) (hn : l.length <= 140737488355328) (hl : (Lib.join l sep).length <= 140737488355328) : ACall Tryz.prog GT 175 [jD l, eS sep] (eS (Lib.join l sep)) := by
 refine ⟨zsc.1, fun ok w vs hG hok hf => ?_⟩
 simp only [FitsL, jD, Fits] at hf
 obtain ⟨u, us, rfl, ⟨a, c, size, rfl, h1, h2, h3, h4⟩, u2, us2, rfl, ⟨rfl, _⟩, rfl⟩ := hf
 cases l with
 | nil =>
  refine (zsc.2.1 a c ⟨sep.toArray⟩ w).mono fun e w' ⟨he, hb⟩ => ⟨_, he, hb, ?_⟩
  simp only [Fits]
  exact ⟨by simp [Lib.join], rfl⟩
 | cons s l =>
  obtain ⟨b, off, rfl, hb, hr⟩ := h4 (by simp)
  have hc := zCu hr
  have hbk : b < w.heap.size := hok b hb
  have e1 : ((s :: l).map fun s => (⟨s.toArray⟩ : ByteArray)).map (·.data.toList) = s :: l := by rw [List.map_map]; exact (List.map_congr_left fun a _ => by simp).trans (List.map_id _)
  have := zsc.2.2 b off c ((s :: l).map fun s => (⟨s.toArray⟩ : ByteArray)) ⟨sep.toArray⟩ w hc hbk (by simpa using hn) (by simpa using h1) (by rw [e1]; simpa using hl)
  rw [e1, List.length_map] at this
  simp only [List.length_map] at *
  refine this.mono fun e w' ⟨he, hb⟩ => ⟨_, he, hb, ?_⟩
  simp only [Fits]
  exact ⟨by simp, rfl⟩
def zAm (c : UInt8) : List UInt8 -> List (List UInt8)
 | [] => [[]]
 | x :: xs => if x = c then [] :: zAm c xs else match zAm c xs with
  | [] => [[x]]
  | p :: ps => (x :: p) :: ps
theorem zBC (c : UInt8) : ∀ l, zAm c l ≠ []
 | [] => by simp [zAm]
 | x :: xs => by
  simp only [zAm]
  split
  ·
   simp
  ·
   split <;> simp
theorem zA3 (c : UInt8) : ∀ (l : List UInt8), Lib.splitK [c] 0 (Lib.count l [c]) l = zAm c l
 | [] => by rw [Lib.count_miss (by simp [Lib.index])]; rfl
 | b :: l => by
  by_cases h : b = c
  ·
   subst h
   have hix : Lib.index (b :: l) [b] = ((0 : Nat) : Int) := by rw [Lib.index]; simp [List.isPrefixOf]
   rw [Lib.count_cons_eq, Nat.add_comm, Lib.splitK, if_neg (by rw [hix]; decide), hix]
   simp only [zAm, if_true]
   rw [← zA3 b l]
   simp
  ·
   have hp : ([c] : List UInt8).isPrefixOf (b :: l) = false := by simp [List.isPrefixOf, Ne.symm h]
   have hix : Lib.index (b :: l) [c] = if Lib.index l [c] == -1 then -1 else Lib.index l [c] + 1 := by rw [Lib.index, hp]; simp
   have ih := zA3 c l
   rw [Lib.count_cons_ne b c l h]
   simp only [zAm, if_neg h]
   rw [← ih]
   cases hk : Lib.count l [c] with
   | zero => rfl
   | succ k =>
    by_cases hm : Lib.index l [c] = -1
    ·
     rw [Lib.count_miss hm] at hk; cases hk
    ·
     have hge := Lib.index_ge l [c]
     obtain ⟨j, hj⟩ : ∃ j : Nat, Lib.index l [c] = j := ⟨(Lib.index l [c]).toNat, by omega⟩
     have hix' : Lib.index (b :: l) [c] = ((j + 1 : Nat) : Int) := by rw [hix, if_neg (fun e => hm (beq_iff_eq.1 e)), hj]; omega
     have e1 : ¬ ((Lib.index (b :: l) [c] == -1) = true) := fun e => by have := beq_iff_eq.1 e; omega
     have e2 : ¬ ((Lib.index l [c] == -1) = true) := fun e => hm (beq_iff_eq.1 e)
     simp only [Lib.splitK]
     rw [if_neg e1, if_neg e2, hix', hj]
     simp
theorem f163 (s : List UInt8) (c : UInt8) (hs : s.length < 4294967281) : ACall Tryz.prog GT 163 [eS s, eS [c]] (jD (zAm c s)) := by
 refine ⟨⟨_, Tryz.func163, by kernel_rfl, rfl⟩, fun ok w vs hG hok hf => ?_⟩
 simp only [FitsL, Fits] at hf
 obtain ⟨u, us, rfl, ⟨rfl, _⟩, u2, us2, rfl, ⟨rfl, _⟩, rfl⟩ := hf
 obtain ⟨_, m, hm⟩ := hG
 have hcall := Any.strings_Split Tryz.lays146 (by kernel_rfl) ⟨s.toArray⟩ ⟨[c].toArray⟩ m w (by simpa [ByteArray.size] using hs) hm (by simp [ByteArray.size])
 refine hcall.mono fun e w' ⟨he, hw⟩ => ⟨_, he, by rw [hw]; exact below_alloc w _, ?_⟩
 have hall := Lib.splitB_all ⟨[c].toArray⟩ (by simp [ByteArray.size]) 0 _ ⟨s.toArray⟩ rfl
 have hdat := Lib.splitB_data ⟨[c].toArray⟩ 0 (Lib.countB ⟨s.toArray⟩ ⟨[c].toArray⟩) ⟨s.toArray⟩
 have hk : Lib.splitK [c] 0 (Lib.countB ⟨s.toArray⟩ ⟨[c].toArray⟩) s = zAm c s := by
  show Lib.splitK [c] 0 (Lib.count (ByteArray.mk s.toArray).data.toList (ByteArray.mk [c].toArray).data.toList) s = _
  simpa using zA3 c s
 simp only at hdat
 rw [hk] at hdat
 obtain ⟨ps, hps⟩ : ∃ ps, Lib.splitB ⟨[c].toArray⟩ 0 (Lib.countB ⟨s.toArray⟩ ⟨[c].toArray⟩) ⟨s.toArray⟩ = ps := ⟨_, rfl⟩
 rw [hps] at hall hdat hw
 rw [← hall]
 have hlen : (zAm c s).length = ps.length := by rw [← hdat]; simp
 have hle : ps.length <= s.length + 1 := by
  have := Lib.countB_le ⟨[c].toArray⟩ (by simp [ByteArray.size]) s.length ⟨s.toArray⟩ (by simp [ByteArray.size])
  simp [ByteArray.size] at this
  omega
 simp only [jD, Fits]
 refine ⟨some ⟨w.heap.size, 0, none⟩, ps.length, 1, by rw [List.length_map, hlen], by simp [hlen], by unfold maxLen; omega, fun r hr => by obtain ⟨s, _, rfl⟩ := List.mem_map.1 hr; rfl, fun _ => ⟨w.heap.size, 0, rfl, .inr ⟨Nat.le_refl _, by rw [hw]; simp⟩, ?_⟩⟩
 refine FitsR.of_get (size := 1) (fun r hr => by obtain ⟨s, _, rfl⟩ := List.mem_map.1 hr; rfl) fun i r hr => ?_
 rw [List.getElem?_map] at hr
 cases hi : (zAm c s)[i]? with
 | none => rw [hi] at hr; cases hr
 | some p =>
  rw [hi] at hr
  injection hr with hr
  subst hr
  rw [← hdat, List.getElem?_map] at hi
  cases hb : ps[i]? with
  | none => rw [hb] at hi; cases hi
  | some q =>
   rw [hb] at hi
   injection hi with hi
   simp only [FitsC, Fits]
   refine ⟨⟨.string q, ?_, rfl, ?_, rfl⟩, trivial⟩
   ·
    rw [hw]
    have := heap_alloc_new w (.cells (ps.map Value.string).toArray (Tryz.lays146_ren.t 9))
    simp only [World.cell?, this]
    simp [hb]
   ·
    rw [← hi]
def zDY (w : World) (g : Nat) : Prop := ∃ ev, w.cell? ⟨g, 0, none⟩ = some ev /\ (ev = .nilIface ∨ ∃ te pe, ev = .iface te pe)
def GE : Glob := ⟨fun w => GT.holds w /\ zDY w 0 /\ zDY w 1, fun w w' h hb => by
 refine ⟨GT.stable w w' h.1 hb, ?_, ?_⟩
 ·
  obtain ⟨ev, h1, h2⟩ := h.2.1
  exact ⟨ev, (hb.cell (Lib.lt_of_cell h1)).trans h1, h2⟩
 ·
  obtain ⟨ev, h1, h2⟩ := h.2.2
  exact ⟨ev, (hb.cell (Lib.lt_of_cell h1)).trans h1, h2⟩⟩
theorem ACall.ge {f : FuncId} {args : List AV} {r : AV} (h : ACall Tryz.prog GT f args r) : ACall Tryz.prog GE f args r := ⟨h.1, fun ok w vs hG hok hf => h.2 ok w vs hG.1 hok hf⟩
def atE : Lib.NumEnd Int -> AV
 | .ok _ => .v .nilIface
 | _ => .ifc 250 .top
def atN : Lib.NumEnd Int -> AV
 | .ok v => .v (.int .i64 v)
 | _ => .top
theorem f164 (s : List UInt8) (hs : s.length <= 1000000) : ACall Tryz.prog GE 164 [eS s] (.tup [atN (Lib.atoiAll s), atE (Lib.atoiAll s)]) := by
 refine ⟨⟨_, Tryz.func164, by kernel_rfl, rfl⟩, fun ok w vs hG hok hf => ?_⟩
 simp only [FitsL, Fits] at hf
 obtain ⟨u, us, rfl, ⟨rfl, _⟩, rfl⟩ := hf
 have hsz : (⟨s.toArray⟩ : ByteArray).size <= 1000000 := by simpa [ByteArray.size] using hs
 have hdat : (⟨s.toArray⟩ : ByteArray).data.toList = s := by simp
 cases hc : Lib.atoiAll s with
 | ok v =>
  have := Any.strconv_Atoi_ok Tryz.laysC172 ⟨s.toArray⟩ (by omega) v (by rw [hdat]; exact hc) w
  refine this.mono fun e w' ⟨he, hw⟩ => ⟨_, he, ?_, ?_⟩
  ·
   rcases hw with rfl | ⟨t, rfl⟩
   ·
    exact Below.refl _ _
   ·
    exact Lib.bytesWorld_below _ _ _
  ·
   simp only [atN, atE, Fits]
   exact ⟨_, rfl, by simp only [FitsL, Fits]; exact ⟨_, _, rfl, ⟨rfl, rfl⟩, _, _, rfl, ⟨rfl, rfl⟩, rfl⟩⟩
 | «syntax» =>
  obtain ⟨ev, h1, h2⟩ := hG.2.1
  have := Any.strconv_Atoi_syntax Tryz.laysC172 ⟨s.toArray⟩ (by omega) (by rw [hdat]; exact hc) ev w h1 h2
  refine this.mono fun e w' ⟨N, he, _, _, hb⟩ => ⟨_, he, hb, ?_⟩
  simp only [atN, atE, Fits]
  exact ⟨_, rfl, by simp only [FitsL, Fits]; exact ⟨_, _, rfl, trivial, _, _, rfl, ⟨_, rfl, trivial⟩, rfl⟩⟩
 | range =>
  obtain ⟨ev, h1, h2⟩ := hG.2.2
  have := Any.strconv_Atoi_range Tryz.laysC172 ⟨s.toArray⟩ (by omega) (by rw [hdat]; exact hc) ev w h1 h2
  refine this.mono fun e w' ⟨N, he, _, _, hb⟩ => ⟨_, he, hb, ?_⟩
  simp only [atN, atE, Fits]
  exact ⟨_, rfl, by simp only [FitsL, Fits]; exact ⟨_, _, rfl, trivial, _, _, rfl, ⟨_, rfl, trivial⟩, rfl⟩⟩
end Go.Av
end
