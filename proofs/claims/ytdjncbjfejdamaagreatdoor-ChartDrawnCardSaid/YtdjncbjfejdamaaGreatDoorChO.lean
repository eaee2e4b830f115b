import Derived.Test.YtdjncbjfejdamaaGreatDoorChN
import Derived.Test.YtdjncbjfejdamaaGreatDoorChF
import Derived.Test.YtdjncbjfejdamaaGreatDoorChLP
import Derived.Test.YtdjncbjfejdamaaGreatDoorChE
import Derived.Test.YtdjncbjfejdamaaGreatDoorChP
import Derived.Test.YtdjncbjfejdamaaGreatDoorChM
set_option linter.unusedVariables false
set_option linter.unusedSimpArgs false
section
namespace Go.Av
open Go.Proofs
def dN (W i j:Nat):Nat:=((i / W - j / W) + (j / W - i / W)) + ((i % W - j % W) + (j % W - i % W))
theorem zUH (W i j:Nat):dist (W:Int) (i:Int) (j:Int) = (dN W i j:Int):=by
 unfold dist dN zSx
 rw [← Int.natCast_ediv, ← Int.natCast_ediv, ← Int.natCast_emod, ← Int.natCast_emod]
 generalize i / W = a; generalize j / W = b; generalize i % W = c; generalize j % W = d
 omega
theorem zVL (W i j k:Nat):dN W i j <= dN W i k + dN W k j:=by
 unfold dN
 generalize i / W = a; generalize j / W = b; generalize i % W = c; generalize j % W = d; generalize k / W = e; generalize k % W = f
 omega
theorem zVx {W i j:Nat} (h:dN W i j = 0):i = j:=by
 unfold dN at h
 have h1:i / W = j / W:=by
  generalize i / W = a at *; generalize j / W = b at *; generalize i % W = c at *; generalize j % W = d at *
  omega
 have h2:i % W = j % W:=by
  generalize i / W = a at *; generalize j / W = b at *; generalize i % W = c at *; generalize j % W = d at *
  omega
 rw [← Nat.div_add_mod i W, ← Nat.div_add_mod j W, h1, h2]
theorem zVA {W R i j:Nat} (hW:0 < W) (hi:i < W * R) (hj:j < W * R) (h:dN W i j ≠ 0):∃ k, k < W * R /\ dN W i k = 1 /\ dN W k j + 1 = dN W i j:=by
 have hqi:i / W < R:=Nat.div_lt_of_lt_mul hi
 have hqj:j / W < R:=Nat.div_lt_of_lt_mul hj
 have hri:=Nat.mod_lt i hW
 have hrj:=Nat.mod_lt j hW
 have mk:∀ q r, q < R -> r < W -> W * q + r < W * R /\ (W * q + r) / W = q /\ (W * q + r) % W = r:=fun q r hq hr=>by
  refine ⟨?_, ?_, ?_⟩
  ·
   have:W * (q + 1) <= W * R:=Nat.mul_le_mul_left _ hq
   rw [Nat.mul_succ] at this; omega
  ·
   rw [Nat.mul_add_div hW, Nat.div_eq_of_lt hr]; omega
  ·
   rw [Nat.mul_add_mod, Nat.mod_eq_of_lt hr]
 unfold dN at h ⊢
 generalize i / W = qi at *
 generalize j / W = qj at *
 generalize i % W = ri at *
 generalize j % W = rj at *
 by_cases h1:qi < qj
 ·
  obtain ⟨a1, a2, a3⟩:=mk (qi + 1) ri (by omega) hri
  exact ⟨_, a1, by rw [a2, a3]; omega, by rw [a2, a3]; omega⟩
 ·
  by_cases h2:qj < qi
  ·
   obtain ⟨a1, a2, a3⟩:=mk (qi - 1) ri (by omega) hri
   exact ⟨_, a1, by rw [a2, a3]; omega, by rw [a2, a3]; omega⟩
  ·
   by_cases h3:ri < rj
   ·
    obtain ⟨a1, a2, a3⟩:=mk qi (ri + 1) hqi (by omega)
    exact ⟨_, a1, by rw [a2, a3]; omega, by rw [a2, a3]; omega⟩
   ·
    obtain ⟨a1, a2, a3⟩:=mk qi (ri - 1) hqi (by omega)
    exact ⟨_, a1, by rw [a2, a3]; omega, by rw [a2, a3]; omega⟩
theorem lip {V:Nat -> Int} {s:Int} {W R:Nat} (hW:0 < W) (h:∀ i j, i < W * R -> j < W * R -> dN W i j = 1 -> V i - V j <= s):
  ∀ (d i j:Nat), dN W i j = d -> i < W * R -> j < W * R -> V i - V j <= s * (d:Int)
 | 0, i, j, hd, _, _=>by rw [zVx hd]; simp
 | d + 1, i, j, hd, hi, hj=>by
  obtain ⟨k, k1, k2, k3⟩:=zVA hW hi hj (by omega)
  have h1:=h i k hi k1 k2
  have h2:=lip hW h d k j (by omega) k1 hj
  have:s * ((d + 1:Nat):Int) = s * (d:Int) + s:=by push_cast; rw [Int.mul_add]; omega
  omega
def vAt (f:Fld) (i:Nat):Int:=f.vals.getD i 0
structure FitsM (m:Mp) (f:Fld):Prop where
 wide:f.wide = m.wide
 len:(f.vals.length:Int) = m.wide * m.rows
 near:∀ i j, i < f.vals.length -> j < f.vals.length -> dist m.wide (i:Int) (j:Int) = 1 -> vAt f i - vAt f j <= m.slope
 st:∀ s ∈ m.st, s.lo <= vAt f s.pt.toNat /\ vAt f s.pt.toNat <= s.hi
theorem zUR {m:Mp} {f:Fld}:zUE m f = true ↔ FitsM m f:=by
 unfold zUE
 simp only[zLa]
 rw [zUQ]
 unfold zUL zVd
 simp only[zLa, beq_iff_eq, List.all_eq_true]
 constructor
 ·
  rintro ⟨⟨h1, h2⟩, h3, h4⟩
  have near:∀ i j, i < f.vals.length -> j < i -> dist m.wide (i:Int) (j:Int) = 1 -> zSx (vAt f i) (vAt f j) <= m.slope:=fun i j hi hj hd=>by
   have:=h3 i hi j hj (by rw [h1]; exact hd)
   unfold zUI at this
   simpa [vAt] using this
  refine ⟨h1, h2, fun i j hi hj hd=>?_, fun s hs=>zdh.1 (h4 s hs)⟩
  rcases Nat.lt_trichotomy j i with h | h | h
  ·
   have:=near i j hi h hd
   unfold zSx at this; omega
  ·
   subst h; rw [zUG] at hd; omega
  ·
   have:=near j i hj h (by rw [zUD]; exact hd)
   unfold zSx at this; omega
 ·
  rintro ⟨h1, h2, h3, h4⟩
  refine ⟨⟨h1, h2⟩, fun i hi j hj hd=>?_, fun s hs=>zdh.2 (h4 s hs)⟩
  rw [h1] at hd
  have a:=h3 i j hi (by omega) hd
  have b:=h3 j i (by omega) hi (by rw [zUD]; exact hd)
  unfold zUI
  simp only[decide_eq_false_iff_not]
  show ¬ m.slope < zSx (vAt f i) (vAt f j)
  unfold zSx; omega
theorem okM.W {m:Mp} (hm:okM m):∃ W R:Nat, m.wide = (W:Int) /\ m.rows = (R:Int) /\ 0 < W /\ 0 < R /\ W <= 6 /\ R <= 5:=by
 obtain ⟨m1, m2, m3, m4, _⟩:=hm
 exact ⟨m.wide.toNat, m.rows.toNat, by omega, by omega, by omega, by omega, by omega, by omega⟩
theorem FitsM.lip {m:Mp} {f:Fld} (h:FitsM m f) (hm:okM m) {i j:Nat} (hi:i < f.vals.length) (hj:j < f.vals.length):vAt f i - vAt f j <= m.slope * dist m.wide (i:Int) (j:Int):=by
 obtain ⟨W, R, eW, eR, hW, _⟩:=hm.W
 have hlen:f.vals.length = W * R:=by have:=h.len; rw [eW, eR] at this; exact_mod_cast this
 have hn:=h.near
 rw [eW] at hn ⊢
 rw [zUH]
 rw [hlen] at hi hj hn
 exact Go.Av.lip hW (fun i j hi hj hd=>hn i j hi hj (by rw [zUH, hd]; rfl)) _ i j rfl hi hj
theorem FitsM.pt {m:Mp} {f:Fld} (h:FitsM m f) (hm:okM m) {s:Stn} (hs:s ∈ m.st):∃ p:Nat, s.pt = (p:Int) /\ p < f.vals.length:=by
 have:=hm.2.2.2.2.2.2.2 s hs
 exact ⟨s.pt.toNat, by omega, by have:=h.len; omega⟩
theorem FitsM.clash {m:Mp} {f:Fld} (h:FitsM m f) (hm:okM m):zH5 m = none:=by
 refine zI0 fun a ha b hb _=>?_
 rw [zKf ha hb]
 obtain ⟨p, ep, hp⟩:=h.pt hm (List.getElem_mem ha)
 obtain ⟨q, eq, hq⟩:=h.pt hm (List.getElem_mem hb)
 have h1:=h.st _ (List.getElem_mem ha)
 have h2:=h.st _ (List.getElem_mem hb)
 have l1:=h.lip hm hp hq
 have l2:=h.lip hm hq hp
 rw [zUD] at l2
 unfold apartB
 rw [ep, eq] at *
 simp only[Int.toNat_natCast] at h1 h2
 simp only[Bool.or_eq_false_iff, decide_eq_false_iff_not]
 omega
theorem FitsM.lo {m:Mp} {f:Fld} (h:FitsM m f) (hm:okM m) {i:Nat} (hi:i < f.vals.length) (hv:0 <= vAt f i):zIE m.wide m.slope (i:Int) m.st <= vAt f i:=
 zJK _ (fun b=>b <= vAt f i) m.st 0 hv fun b s hs hb=>by
  obtain ⟨p, ep, hp⟩:=h.pt hm hs
  have h1:=h.st _ hs
  have l1:=h.lip hm hp hi
  rw [zUD] at l1
  rw [ep] at *
  simp only[Int.toNat_natCast] at h1
  omega
theorem FitsM.hi {m:Mp} {f:Fld} (h:FitsM m f) (hm:okM m) {i:Nat} (hi:i < f.vals.length) (hv:vAt f i <= 99999):vAt f i <= zIJ m.wide m.slope (i:Int) m.st:=
 zJK _ (fun b=>vAt f i <= b) m.st 99999 hv fun b s hs hb=>by
  obtain ⟨p, ep, hp⟩:=h.pt hm hs
  have h1:=h.st _ hs
  have l1:=h.lip hm hi hp
  rw [ep] at *
  simp only[Int.toNat_natCast] at h1
  omega
end Go.Av
end
section
namespace Go.Av
open Go.Proofs
theorem zVa {w sl p:Int} {l:List Stn} {s:Stn} (hs:s ∈ l):s.lo - sl * dist w p s.pt <= zIE w sl p l:=by
 unfold zIE
 have key:∀ (l:List Stn) (b:Int), b <= l.foldl (fun a s=>max a (s.lo - sl * dist w p s.pt)) b:=by
  intro l
  induction l with
  | nil=>intro b; exact Int.le_refl _
  | cons t l ih=>intro b; exact Int.le_trans (Int.le_max_left _ _) (ih _)
 have key2:∀ (l:List Stn) (b:Int), s ∈ l -> s.lo - sl * dist w p s.pt <= l.foldl (fun a s=>max a (s.lo - sl * dist w p s.pt)) b:=by
  intro l
  induction l with
  | nil=>intro b h; cases h
  | cons t l ih=>
   intro b h
   rcases List.mem_cons.1 h with rfl | h
   ·
    exact Int.le_trans (Int.le_max_right _ _) (key l _)
   ·
    exact ih _ h
 exact key2 l 0 hs
theorem zU9 {w sl p:Int} {l:List Stn} {s:Stn} (hs:s ∈ l):zIJ w sl p l <= s.hi + sl * dist w p s.pt:=by
 unfold zIJ
 have key:∀ (l:List Stn) (b:Int), l.foldl (fun a s=>min a (s.hi + sl * dist w p s.pt)) b <= b:=by
  intro l
  induction l with
  | nil=>intro b; exact Int.le_refl _
  | cons t l ih=>intro b; exact Int.le_trans (ih _) (Int.min_le_left _ _)
 have key2:∀ (l:List Stn) (b:Int), s ∈ l -> l.foldl (fun a s=>min a (s.hi + sl * dist w p s.pt)) b <= s.hi + sl * dist w p s.pt:=by
  intro l
  induction l with
  | nil=>intro b h; cases h
  | cons t l ih=>
   intro b h
   rcases List.mem_cons.1 h with rfl | h
   ·
    exact Int.le_trans (key l _) (Int.min_le_right _ _)
   ·
    exact ih _ h
 exact key2 l 99999 hs
theorem zVb {w sl p X:Int} {l:List Stn} (h0:0 <= X) (h:∀ s ∈ l, s.lo - sl * dist w p s.pt <= X):zIE w sl p l <= X:=
 zJK _ (fun b=>b <= X) l 0 h0 fun b s hs hb=>by have:=h s hs; omega
theorem zVc {w sl p X:Int} {l:List Stn} (h0:X <= 99999) (h:∀ s ∈ l, X <= s.hi + sl * dist w p s.pt):X <= zIJ w sl p l:=
 zJK _ (fun b=>X <= b) l 99999 h0 fun b s hs hb=>by have:=h s hs; omega
theorem zVw {W:Nat} {a b c:Int} (ha:0 <= a) (hb:0 <= b) (hc:0 <= c):dist (W:Int) a b <= dist (W:Int) a c + dist (W:Int) c b:=by
 obtain ⟨a, rfl⟩:=Int.eq_ofNat_of_zero_le ha
 obtain ⟨b, rfl⟩:=Int.eq_ofNat_of_zero_le hb
 obtain ⟨c, rfl⟩:=Int.eq_ofNat_of_zero_le hc
 rw [zUH, zUH, zUH]
 have:=zVL W a b c
 omega
theorem zVQ {s a b c:Int} (hs:0 <= s) (h:a <= b + c):s * a <= s * b + s * c:=by
 rw [← Int.mul_add]; exact Int.mul_le_mul_of_nonneg_left h hs
theorem okM.tri {m:Mp} (hm:okM m) {a b c:Int} (ha:0 <= a) (hb:0 <= b) (hc:0 <= c):m.slope * dist m.wide a b <= m.slope * dist m.wide a c + m.slope * dist m.wide c b:=by
 obtain ⟨W, R, eW, _⟩:=hm.W
 rw [eW]
 exact zVQ hm.2.2.2.2.1 (zVw ha hb hc)
theorem okM.dnn {m:Mp} (hm:okM m) {a b:Int} (ha:0 <= a) (hb:0 <= b):0 <= m.slope * dist m.wide a b:=by
 obtain ⟨W, R, eW, _⟩:=hm.W
 obtain ⟨a, rfl⟩:=Int.eq_ofNat_of_zero_le ha
 obtain ⟨b, rfl⟩:=Int.eq_ofNat_of_zero_le hb
 rw [eW, zUH]
 exact Int.mul_nonneg hm.2.2.2.2.1 (by omega)
theorem okM.pt0 {m:Mp} (hm:okM m) {s:Stn} (hs:s ∈ m.st):0 <= s.pt:=(hm.2.2.2.2.2.2.2 s hs).1
theorem zUW {m:Mp} (hm:okM m) (hc:zH5 m = none) {s t:Stn} (hs:s ∈ m.st) (ht:t ∈ m.st):s.lo - m.slope * dist m.wide s.pt t.pt <= t.hi:=by
 obtain ⟨a, ha, rfl⟩:=List.getElem_of_mem hs
 obtain ⟨b, hb, rfl⟩:=List.getElem_of_mem ht
 have key:∀ x y:Nat, (hx:x < m.st.length) -> (hy:y < m.st.length) -> x < y -> m.st[x].lo - m.slope * dist m.wide m.st[x].pt m.st[y].pt <= m.st[y].hi /\ m.st[y].lo - m.slope * dist m.wide m.st[x].pt m.st[y].pt <= m.st[x].hi:=fun x y hx hy hxy=>by
  have:=zUN hc x y hxy hy
  rw [zKf hx hy] at this
  unfold apartB at this
  simp only[Bool.or_eq_false_iff, decide_eq_false_iff_not] at this
  omega
 rcases Nat.lt_trichotomy a b with h | h | h
 ·
  exact (key a b ha hb h).1
 ·
  subst h
  rw [zUG]
  have:=hm.2.2.2.2.2.2.2 _ hs
  omega
 ·
  have:=(key b a hb ha h).2
  rw [zUD]; exact this
section
variable {m:Mp}
theorem zVI (hm:okM m) {i j:Int} (hi:0 <= i) (hj:0 <= j):zIE m.wide m.slope i m.st <= zIE m.wide m.slope j m.st + m.slope * dist m.wide i j:=
 zVb (by have:=hm.dnn hi hj; have:0 <= zIE m.wide m.slope j m.st:=zJK _ (fun b=>0 <= b) m.st 0 (Int.le_refl _) (fun b s _ hb=>by omega); omega) fun s hs=>by
  have h1:=zVa (w:=m.wide) (sl:=m.slope) (p:=j) hs
  have h2:=hm.tri (a:=j) (b:=s.pt) (c:=i) hj (hm.pt0 hs) hi
  rw [zUD m.wide j i] at h2
  omega
theorem zVN (hm:okM m) {i j:Int} (hi:0 <= i) (hj:0 <= j):zIJ m.wide m.slope i m.st <= zIJ m.wide m.slope j m.st + m.slope * dist m.wide i j:=by
 have:zIJ m.wide m.slope i m.st - m.slope * dist m.wide i j <= zIJ m.wide m.slope j m.st:=zVc (by
  have:=hm.dnn hi hj
  have:zIJ m.wide m.slope i m.st <= 99999:=zJK _ (fun b=>b <= 99999) m.st 99999 (Int.le_refl _) (fun b s _ hb=>by omega)
  omega) fun s hs=>by
  have h1:=zU9 (w:=m.wide) (sl:=m.slope) (p:=i) hs
  have h2:=hm.tri (a:=i) (b:=s.pt) (c:=j) hi (hm.pt0 hs) hj
  omega
 omega
theorem zVT (hm:okM m) (hc:zH5 m = none) {s:Stn} (hs:s ∈ m.st):s.lo <= zIE m.wide m.slope s.pt m.st /\ zIE m.wide m.slope s.pt m.st <= s.hi:=by
 have h1:=zVa (w:=m.wide) (sl:=m.slope) (p:=s.pt) hs
 rw [zUG] at h1
 refine ⟨by omega, zVb (by have:=hm.2.2.2.2.2.2.2 s hs; omega) fun t ht=>?_⟩
 have:=zUW hm hc ht hs
 rw [zUD] at this; exact this
theorem zVW (hm:okM m) (hc:zH5 m = none) {s:Stn} (hs:s ∈ m.st):s.lo <= zIJ m.wide m.slope s.pt m.st /\ zIJ m.wide m.slope s.pt m.st <= s.hi:=by
 have h1:=zU9 (w:=m.wide) (sl:=m.slope) (p:=s.pt) hs
 rw [zUG] at h1
 refine ⟨zVc (by have:=hm.2.2.2.2.2.2.2 s hs; omega) fun t ht=>?_, by omega⟩
 have:=zUW hm hc hs ht
 omega
def fnF (m:Mp) (g:Nat -> Int):Fld:=⟨m.wide, (List.range (npt m)).map g⟩
theorem zUT (g:Nat -> Int):(fnF m g).vals.length = npt m:=by simp [fnF]
theorem zU4 {g:Nat -> Int} {i:Nat} (hi:i < npt m):vAt (fnF m g) i = g i:=by simp [vAt, fnF, List.getD, hi]
theorem zVt (hm:okM m) {g:Nat -> Int} (h1:∀ i j:Nat, g i <= g j + m.slope * dist m.wide (i:Int) (j:Int)) (h2:∀ s ∈ m.st, s.lo <= g s.pt.toNat /\ g s.pt.toNat <= s.hi):FitsM m (fnF m g):=by
 have hn:=zJF hm
 refine ⟨rfl, by rw [zUT]; exact hn.1, fun i j hi hj hd=>?_, fun s hs=>?_⟩
 ·
  rw [zUT] at hi hj
  rw [zU4 hi, zU4 hj]
  have:=h1 i j
  rw [hd] at this
  omega
 ·
  have:=hm.2.2.2.2.2.2.2 s hs
  rw [zU4 (by omega)]
  exact h2 s hs
theorem zVn (hm:okM m) {g:Nat -> Int} (h:∀ i, i < npt m -> 0 <= g i /\ g i <= 99999):zHz (fnF m g) = true:=by
 have hn:=zJF hm
 have ho:=hm
 obtain ⟨m1, m2, m3, m4, _⟩:=ho
 have hw:(fnF m g).wide = m.wide:=rfl
 unfold zHz zH2 zJM
 rw [zUT, hw, hn.1]
 have e1:m.wide * m.rows % m.wide = 0:=Int.mul_emod_right _ _
 have e2:m.wide * m.rows / m.wide = m.rows:=Int.mul_ediv_cancel_left _ (by omega)
 rw [e1, e2, zdh.2 ⟨m1, m2⟩, zdh.2 ⟨m3, m4⟩]
 simp only[beq_self_eq_true, Bool.and_self, Bool.true_and, Bool.not_eq_true', List.any_eq_false]
 intro n hn'
 obtain ⟨i, hi, rfl⟩:=List.mem_map.1 hn'
 have:=zdh.2 (h i (List.mem_range.1 hi))
 simp [this]
def loG (m:Mp) (i:Nat):Int:=zIE m.wide m.slope (i:Int) m.st
def hiG (m:Mp) (i:Nat):Int:=zIJ m.wide m.slope (i:Int) m.st
theorem zVE (hm:okM m) {s:Stn} (hs:s ∈ m.st):((s.pt.toNat:Nat):Int) = s.pt:=by have:=hm.pt0 hs; omega
theorem zVK (hm:okM m) {i:Nat} (hi:i < npt m):0 <= loG m i /\ loG m i <= 99999:=by
 have hn:=zJF hm
 have:=hm.lo (p:=(i:Int)) (by omega) m.st.length
 rw [List.take_of_length_le (Nat.le_refl _)] at this
 exact this
theorem zVH (hm:okM m) {i:Nat} (hi:i < npt m):0 <= hiG m i /\ hiG m i <= 99999:=by
 have hn:=zJF hm
 have:=hm.hi (p:=(i:Int)) (by omega) m.st.length
 rw [List.take_of_length_le (Nat.le_refl _)] at this
 exact this
end
end Go.Av
end
section
namespace Go.Av
open Go.Proofs
set_option maxRecDepth 100000
def mG (m:Mp) (i:Nat):Int:=(loG m i + hiG m i) / 2
theorem zUZ (m:Mp):zN6 m = fnF m (mG m):=rfl
theorem zVe {m:Mp} (hm:okM m) (hc:zH5 m = none):FitsM m (zN6 m):=by
 rw [zUZ]
 refine zVt hm (fun i j=>?_) fun s hs=>?_
 ·
  have h1:=zVI hm (i:=(i:Int)) (j:=(j:Int)) (by omega) (by omega)
  have h2:=zVN hm (i:=(i:Int)) (j:=(j:Int)) (by omega) (by omega)
  unfold mG loG hiG
  omega
 ·
  have h1:=zVT hm hc hs
  have h2:=zVW hm hc hs
  unfold mG loG hiG
  rw [zVE hm hs]
  omega
theorem zU3 {m:Mp} (hm:okM m):zHz (zN6 m) = true:=by
 rw [zUZ]
 refine zVn hm fun i hi=>?_
 have h1:=zVK hm hi
 have h2:=zVH hm hi
 unfold mG
 omega
end Go.Av
end
section
namespace Go.Av
open Go.Proofs
set_option maxRecDepth 100000
set_option maxHeartbeats 1000000
variable {G:Glob}
theorem zVu {m:Mp} {d:Fld} (hF:FitsM m d) {lvl:Int} {s:Stn} (hs:s ∈ m.st) {x:Cr} {w r:Nat} (hx:x.1 < w * r /\ x.2 < w * r /\ zIn w x.1 x.2 = true /\ hiF d lvl x.1 = false /\ hiF d lvl x.2 = true) (hlen:d.vals.length = w * r) (hm:okM m):
  (((((x.1:Nat):Int) == s.pt) && decide (lvl <= s.lo)) || ((((x.2:Nat):Int) == s.pt) && decide (s.hi < lvl))) = false:=by
 obtain ⟨_, _, _, h4, h5⟩:=hx
 have h6:=hF.st s hs
 have hp:=zVE hm hs
 unfold hiF at h4 h5
 unfold vAt at h6
 rw [decide_eq_false_iff_not] at h4
 rw [decide_eq_true_iff] at h5
 cases e1:(((x.1:Nat):Int) == s.pt) with
 | true=>
  have e:x.1 = s.pt.toNat:=by rw [beq_iff_eq] at e1; omega
  rw [e] at h4
  rw [decide_eq_false (show ¬ lvl <= s.lo by omega)]
  cases e2:(((x.2:Nat):Int) == s.pt) with
  | true=>
   have e':x.2 = s.pt.toNat:=by rw [beq_iff_eq] at e2; omega
   rw [e'] at h5
   rw [decide_eq_false (show ¬ s.hi < lvl by omega)]; rfl
  | false=>rfl
 | false=>
  cases e2:(((x.2:Nat):Int) == s.pt) with
  | true=>
   have e':x.2 = s.pt.toNat:=by rw [beq_iff_eq] at e2; omega
   rw [e'] at h5
   rw [decide_eq_false (show ¬ s.hi < lvl by omega)]; rfl
  | false=>rfl
theorem zVp (hkn:KN GT) (m:Mp) (f:Fld) (lvl:Int) (h:¬ (m.st.length <= 16 /\ f.vals.length <= 40 /\ zNr m = true /\ zHz f = true /\ inB lvl 1 99999 = true)):ACall Tryz.prog GT 14 [.agg (eMp m), .agg (zHF f), ei lvl] (.v (.bool true)):=by
 refine zS Tryz.func14 rfl (by kernel_rfl) rfl ?_
 refine zuy (zh (zg rfl rfl (jf rfl (zY rfl)) (zg rfl rfl (jf rfl (zY rfl)) (zg rfl rfl (zn rfl rfl) (zo (zf (zuy (zuy (zh (zg rfl rfl (zZ rfl rfl zMg (by exact zLb rfl)) (zg rfl rfl (zy (av:=[_]) rfl ⟨rfl, trivial⟩ (f20 m)) ?_)))))))))))
 refine zg rfl rfl (je rfl rfl) (zg rfl rfl (zi rfl rfl) (zk rfl rfl rfl (fun hg=>zZ rfl rfl zHQ (by exact zLb rfl)) ?_))
 refine zk rfl rfl rfl (fun hg=>zy (av:=[_]) rfl ⟨(by exact if_pos hg), trivial⟩ (f26 f)) ?_
 refine zk rfl rfl rfl (fun hg=>je rfl (if_pos hg)) (zg rfl rfl (qU rfl rfl rfl rfl) (zg rfl rfl (zi rfl rfl) (zk rfl rfl rfl (fun hg=>zZ rfl rfl zMg (by exact zLb rfl)) ?_)))
 refine zk rfl rfl rfl (fun hg=>zy (av:=[_]) rfl ⟨(by exact if_pos hg), trivial⟩ (f40 m)) ?_
 refine zk rfl rfl rfl (fun hg=>je rfl (if_pos hg)) (zg rfl rfl (qU rfl rfl rfl rfl) (zg rfl rfl (zi rfl rfl) (zk rfl rfl rfl (fun hg=>zZ rfl rfl zHQ (by exact zLb rfl)) ?_)))
 refine zk rfl rfl rfl (fun hg=>zy (av:=[_]) rfl ⟨(by exact if_pos hg), trivial⟩ (f28 f (by have hg2:=hg; simp at hg2; omega))) ?_
 refine zk rfl rfl rfl (fun hg=>je rfl (if_pos hg)) (zg rfl rfl (qU rfl rfl rfl rfl) (zg rfl rfl (zi rfl rfl) (zk rfl rfl rfl (fun hg=>zi rfl rfl) ?_)))
 refine zk rfl rfl rfl (fun hg=>zy (av:=[_]) rfl ⟨(by exact if_pos hg), trivial⟩ (f29 lvl)) ?_
 refine zk rfl rfl rfl (fun hg=>je rfl (if_pos hg)) (zg rfl rfl (qU rfl rfl rfl rfl) (zo (zf (zx rfl (fun h0=>?_) (fun h0=>?_)))))
 ·
  refine zuy (zh (zg rfl rfl (zy (av:=[]) rfl trivial hkn) (zg rfl rfl (zn rfl rfl) (zo (zf (zP (zQ ?_)))))))
  exact ⟨.inr rfl, AVle.refl _⟩
 ·
  exfalso; simp at h0; exact h ⟨by omega, by omega, h0.1.1.2, h0.1.2, h0.2⟩
theorem zVf (hkn:KN GT) (m:Mp) (f:Fld) (lvl:Int) (hs:m.st.length <= 16) (hl:f.vals.length <= 40) (hm:okM m) (hf:zHz f = true) (hv:inB lvl 1 99999 = true) (p:Nat × Nat) (hc:zH5 m = some p):ACall Tryz.prog GT 14 [.agg (eMp m), .agg (zHF f), ei lvl] (.v (.bool true)):=by
 have hb2:=(zMw m).2 hm
 have h54:=zUK (G:=GT) m f (by omega) hm hf
 have hnf:zUE m f = false:=by cases hq:zUE m f with
   | false=>rfl
   | true=>have:=(zUR.1 hq).clash hm; rw [hc] at this; cases this
 rw [hnf] at h54
 refine zS Tryz.func14 rfl (by kernel_rfl) rfl ?_
 refine zuy (zh (zg rfl rfl (jf rfl (zY rfl)) (zg rfl rfl (jf rfl (zY rfl)) (zg rfl rfl (zn rfl rfl) (zo (zf (zuy (zuy (zh (zg rfl rfl (zZ rfl rfl zMg (by exact zLb rfl)) (zg rfl rfl (zy (av:=[_]) rfl ⟨rfl, trivial⟩ (f20 m)) ?_)))))))))))
 refine zg rfl rfl (je rfl rfl) (zg rfl rfl (zi rfl rfl) (zk rfl rfl rfl (fun hg=>zZ rfl rfl zHQ (by exact zLb rfl)) ?_))
 refine zk rfl rfl rfl (fun hg=>zy (av:=[_]) rfl ⟨(by exact if_pos hg), trivial⟩ (f26 f)) ?_
 refine zk rfl rfl rfl (fun hg=>je rfl (if_pos hg)) (zg rfl rfl (qU rfl rfl rfl rfl) (zg rfl rfl (zi rfl rfl) (zk rfl rfl rfl (fun hg=>zZ rfl rfl zMg (by exact zLb rfl)) ?_)))
 refine zk rfl rfl rfl (fun hg=>zy (av:=[_]) rfl ⟨(by exact if_pos hg), trivial⟩ (f40 m)) ?_
 refine zk rfl rfl rfl (fun hg=>je rfl (if_pos hg)) (zg rfl rfl (qU rfl rfl rfl rfl) (zg rfl rfl (zi rfl rfl) (zk rfl rfl rfl (fun hg=>zZ rfl rfl zHQ (by exact zLb rfl)) ?_)))
 refine zk rfl rfl rfl (fun hg=>zy (av:=[_]) rfl ⟨(by exact if_pos hg), trivial⟩ (f28 f (by omega))) ?_
 refine zk rfl rfl rfl (fun hg=>je rfl (if_pos hg)) (zg rfl rfl (qU rfl rfl rfl rfl) (zg rfl rfl (zi rfl rfl) (zk rfl rfl rfl (fun hg=>zi rfl rfl) ?_)))
 refine zk rfl rfl rfl (fun hg=>zy (av:=[_]) rfl ⟨(by exact if_pos hg), trivial⟩ (f29 lvl)) ?_
 refine zk rfl rfl rfl (fun hg=>je rfl (if_pos hg)) (zg rfl rfl (qU rfl rfl rfl rfl) (zo (zf (zx rfl (fun h0=>?_) (fun h0=>?_)))))
 ·
  exfalso; simp [hb2, hf, hv] at h0; omega
 ·
  refine zC (zf (zuy (zh (zg rfl rfl (zZ rfl rfl zMg (by exact zLb rfl)) (zg rfl rfl (zZ rfl rfl zHQ (by exact zLb rfl)) (zg rfl rfl (zy (av:=[_, _]) rfl ⟨rfl, rfl, trivial⟩ h54) (zg rfl rfl (zq rfl rfl) (zg rfl rfl (zN rfl rfl rfl) (zg rfl rfl (zN rfl rfl rfl) (zg rfl rfl (zn rfl rfl) (zg rfl rfl (zn rfl rfl) ?_)))))))))))
  refine zo (zf (zuy (zh (zg rfl rfl (zZ rfl rfl zMg (by exact zLb rfl)) (zg rfl rfl (zy (av:=[_]) rfl ⟨rfl, trivial⟩ (zVm m hm p hc)) (zg rfl rfl (zq rfl rfl) (zg rfl rfl (zN rfl rfl rfl) (zg rfl rfl (zN rfl rfl rfl) ?_))))))))
  refine vI  rfl rfl rfl rfl rfl rfl rfl zNn zHQ rfl (by rfl) (zY rfl) rfl ?_
  refine zg rfl rfl (zn rfl rfl) (zo (zf (zuy (zuy (zh (zg rfl rfl (zi rfl rfl) (zg rfl rfl (vg rfl rfl rfl) (zg rfl rfl (zi rfl rfl) (zk rfl rfl rfl (fun hg=>zi rfl rfl) (zk rfl rfl rfl (fun hg=>zi rfl (rfl)) (zk rfl rfl rfl (fun hg=>zi rfl rfl) ?_)))))))))))
  refine zk (x:=.pub (.tup [])) rfl rfl rfl (fun hg=>absurd hg (by decide)) ?_
  refine zk rfl rfl rfl (fun hg=>zU rfl rfl (fun h=>absurd h (by decide)) (fun _=>rfl)) ?_
  refine zg rfl rfl (qU rfl rfl rfl rfl) (zg rfl rfl (zi rfl rfl) (zk rfl rfl rfl (fun hg=>zi rfl rfl) (zk rfl rfl rfl (fun hg=>vg rfl (rfl) rfl) (zk rfl rfl rfl (fun hg=>zi rfl (rfl)) (zk rfl rfl rfl (fun hg=>zi rfl rfl) (zk rfl rfl rfl (fun hg=>vg rfl rfl rfl) (zk rfl rfl rfl (fun hg=>qI rfl rfl rfl rfl) (zg rfl rfl (qU rfl rfl rfl rfl) (zo (zf (zx rfl (fun h1=>?_) (fun h1=>?_))))))))))))
  ·
   exfalso; simp at h1
  ·
   refine zC (zf (zuy (zuy (zh (zg rfl rfl (zi rfl rfl) (zg rfl rfl (vg rfl rfl rfl) (zo (zf (zx rfl (fun h2=>?_) (fun h2=>?_))))))))))
   ·
    refine zuy (zh (zg rfl rfl (zy (av:=[]) rfl trivial hkn) (zg rfl rfl (zn rfl rfl) (zo (zf (zP (zQ ?_)))))))
    exact ⟨.inr rfl, AVle.refl _⟩
   ·
    exfalso; simp at h2
theorem zVO (hkn:KN GT) (m:Mp) (f:Fld) (lvl:Int) (hs:m.st.length <= 16) (hl:f.vals.length <= 40) (hm:okM m) (hf:zHz f = true) (hv:inB lvl 1 99999 = true) (hc:zH5 m = none):ACall Tryz.prog GT 14 [.agg (eMp m), .agg (zHF f), ei lvl] (.v (.bool true)):=by
 have hb2:=(zMw m).2 hm
 have h54:=zUK (G:=GT) m f (by omega) hm hf
 have hF:=zVe hm hc
 have hdf:=zU3 hm
 have hdl:=zVh hm
 have hdn:(zN6 m).vals.length <= 40:=by have h1:=hF.len; obtain ⟨W, R, e1, e2, e3, e4, e5, e6⟩:=hm.W; rw [e1, e2] at h1; have:=zKu e5 e6; rw [← Int.natCast_mul] at h1; omega
 have h22:=zQt (G:=GT) m hm hc
 have h54d:=zUK (G:=GT) m (zN6 m) (by omega) hm hdf
 rw [zUR.2 hF] at h54d
 have h27:=zQD (G:=GT) (zN6 m) lvl (by omega) hdf hv
 have h26d:=f26 (G:=GT) (zN6 m)
 have h28d:=f28 (G:=GT) (zN6 m) (by omega)
 obtain ⟨zw, w1, w6, r1, r5, hlen⟩:=zNh hdf
 have hwr:=zKu w6 r5
 have hLL:=zNs (h:=hiF (zN6 m) lvl) (w:=wF (zN6 m)) (r:=rF (zN6 m)) w6 r5 hwr
 have hall:=fun l hl k hk=>zTu (h:=hiF (zN6 m) lvl) (w:=wF (zN6 m)) (r:=rF (zN6 m)) w6 r5 (l:=l) hl (k:=k) hk
 have hmA:=fun x=>zOr (h:=hiF (zN6 m) lvl) (w:=wF (zN6 m)) (r:=rF (zN6 m)) (x:=x)
 have hno:=fun l hl k hk s hs=>zVu hF (lvl:=lvl) (s:=s) hs ((hmA _).1 (hall l hl k hk)) hlen hm
 have hvl:=hF.len
 generalize zHT (hiF (zN6 m) lvl) (wF (zN6 m)) (rF (zN6 m)) = L at h27 hLL hno
 generalize zN6 m = d at h22 hdf hdl hdn h54d h27 h26d h28d hvl
 refine zS Tryz.func14 rfl (by kernel_rfl) rfl ?_
 refine zuy (zh (zg rfl rfl (jf rfl (zY rfl)) (zg rfl rfl (jf rfl (zY rfl)) (zg rfl rfl (zn rfl rfl) (zo (zf (zuy (zuy (zh (zg rfl rfl (zZ rfl rfl zMg (by exact zLb rfl)) (zg rfl rfl (zy (av:=[_]) rfl ⟨rfl, trivial⟩ (f20 m)) ?_)))))))))))
 refine zg rfl rfl (je rfl rfl) (zg rfl rfl (zi rfl rfl) (zk rfl rfl rfl (fun hg=>zZ rfl rfl zHQ (by exact zLb rfl)) ?_))
 refine zk rfl rfl rfl (fun hg=>zy (av:=[_]) rfl ⟨(by exact if_pos hg), trivial⟩ (f26 f)) ?_
 refine zk rfl rfl rfl (fun hg=>je rfl (if_pos hg)) (zg rfl rfl (qU rfl rfl rfl rfl) (zg rfl rfl (zi rfl rfl) (zk rfl rfl rfl (fun hg=>zZ rfl rfl zMg (by exact zLb rfl)) ?_)))
 refine zk rfl rfl rfl (fun hg=>zy (av:=[_]) rfl ⟨(by exact if_pos hg), trivial⟩ (f40 m)) ?_
 refine zk rfl rfl rfl (fun hg=>je rfl (if_pos hg)) (zg rfl rfl (qU rfl rfl rfl rfl) (zg rfl rfl (zi rfl rfl) (zk rfl rfl rfl (fun hg=>zZ rfl rfl zHQ (by exact zLb rfl)) ?_)))
 refine zk rfl rfl rfl (fun hg=>zy (av:=[_]) rfl ⟨(by exact if_pos hg), trivial⟩ (f28 f (by omega))) ?_
 refine zk rfl rfl rfl (fun hg=>je rfl (if_pos hg)) (zg rfl rfl (qU rfl rfl rfl rfl) (zg rfl rfl (zi rfl rfl) (zk rfl rfl rfl (fun hg=>zi rfl rfl) ?_)))
 refine zk rfl rfl rfl (fun hg=>zy (av:=[_]) rfl ⟨(by exact if_pos hg), trivial⟩ (f29 lvl)) ?_
 refine zk rfl rfl rfl (fun hg=>je rfl (if_pos hg)) (zg rfl rfl (qU rfl rfl rfl rfl) (zo (zf (zx rfl (fun h0=>?_) (fun h0=>?_)))))
 ·
  exfalso; simp [hb2, hf, hv] at h0; omega
 ·
  refine zC (zf (zuy (zh (zg rfl rfl (zZ rfl rfl zMg (by exact zLb rfl)) (zg rfl rfl (zZ rfl rfl zHQ (by exact zLb rfl)) (zg rfl rfl (zy (av:=[_, _]) rfl ⟨rfl, rfl, trivial⟩ h54) (zg rfl rfl (zq rfl rfl) (zg rfl rfl (zN rfl rfl rfl) (zg rfl rfl (zN rfl rfl rfl) (zg rfl rfl (zn rfl rfl) (zg rfl rfl (zn rfl rfl) ?_)))))))))))
  refine zo (zf (zuy (zh (zg rfl rfl (zZ rfl rfl zMg (by exact zLb rfl)) (zg rfl rfl (zy (av:=[_]) rfl ⟨rfl, trivial⟩ h22) (zg rfl rfl (zq rfl rfl) (zg rfl rfl (zN rfl rfl rfl) (zg rfl rfl (zN rfl rfl rfl) ?_))))))))
  refine vI  rfl rfl rfl rfl rfl rfl rfl zNn zHQ rfl (by rfl) (zY rfl) rfl ?_
  refine zg rfl rfl (zn rfl rfl) (zo (zf (zuy (zuy (zh (zg rfl rfl (zi rfl rfl) (zg rfl rfl (vg rfl rfl rfl) (zg rfl rfl (zi rfl rfl) (zk rfl rfl rfl (fun hg=>zi rfl rfl) (zk rfl rfl rfl (fun hg=>zi rfl (rfl)) (zk rfl rfl rfl (fun hg=>zi rfl rfl) ?_)))))))))))
  refine zk (x:=B ((0:Int) != 0)) rfl (jH (t:=58) (c:=bif false then ((0:Int) != 0) else !((0:Int) != 0)) (b:=zUE m f) rfl rfl rfl) rfl (fun hg=>vg rfl (if_pos hg) rfl) (zk rfl rfl rfl (fun hg=>qI rfl (rfl) (zha hg) rfl) (zg rfl rfl (qU rfl rfl rfl rfl) (zg rfl rfl (zi rfl rfl) (zk rfl rfl rfl (fun hg=>zi rfl rfl) (zk rfl rfl rfl (fun hg=>vg rfl (if_pos hg) rfl) (zk rfl rfl rfl (fun hg=>zi rfl (if_pos hg)) (zk rfl (jH rfl rfl rfl) rfl (fun hg=>zi rfl rfl) (zk (x:=B ((0:Int) != 7)) rfl (jH (t:=66) (c:=bif false then (((0:Int) != 0) || (zUE m f && ((0:Int) != 0))) else !(((0:Int) != 0) || (zUE m f && ((0:Int) != 0)))) (b:=(0:Int) != 0) rfl rfl rfl) rfl (fun hg=>vg rfl (if_pos hg) rfl) (zk rfl rfl rfl (fun hg=>qI rfl (if_pos hg) (zha hg) rfl) (zg rfl rfl (qU rfl rfl rfl rfl) (zo ?_)))))))))))
  refine zf (zx rfl (fun h1=>?_) (fun h1=>?_))
  ·
   exfalso; cases hq:zUE m f <;> simp [hq] at h1
  ·
   refine zC (zf (zuy (zuy (zh (zg rfl rfl (zi rfl rfl) (zg rfl rfl (vg rfl rfl rfl) (zo (zf (zx rfl (fun h2=>?_) (fun h2=>?_))))))))))
   ·
    exfalso; simp at h2
   ·
    refine zC (zf (zuy (zuy (zh (zg rfl rfl (zZ rfl rfl zHQ (by exact zLb rfl)) (zg rfl rfl (zy (av:=[_]) rfl ⟨rfl, trivial⟩ h26d) (zg rfl rfl (je rfl rfl) (zg rfl rfl (zi rfl rfl) (zk rfl rfl rfl (fun hg=>zZ rfl rfl zHQ (by exact zLb rfl)) ?_)))))))))
    refine zk rfl rfl rfl (fun hg=>zy (av:=[_]) rfl ⟨(by exact if_pos hg), trivial⟩ h28d) ?_
    refine zk rfl rfl rfl (fun hg=>je rfl (if_pos hg)) (zg rfl rfl (qU rfl rfl rfl rfl) (zo (zf (zx rfl (fun h3=>?_) (fun h3=>?_)))))
    ·
     exfalso; simp [hdf] at h3; omega
    ·
     refine zC (zf (zuy (zh (zg rfl rfl (zZ rfl rfl zMg (by exact zLb rfl)) (zg rfl rfl (zZ rfl rfl zHQ (by exact zLb rfl)) (zg rfl rfl (zy (av:=[_, _]) rfl ⟨rfl, rfl, trivial⟩ h54d) (zg rfl rfl (zq rfl rfl) (zg rfl rfl (zN rfl rfl rfl) (zg rfl rfl (zN rfl rfl rfl) (zg rfl rfl (zn rfl rfl) (zg rfl rfl (zn rfl rfl) ?_)))))))))))
     refine zo (zf (zuy (zh (zg rfl rfl (zZ rfl rfl zHQ (by exact zLb rfl)) (zg rfl rfl (zi rfl rfl) (zg rfl rfl (zy (av:=[_, _]) rfl ⟨rfl, rfl, trivial⟩ h27) (zg rfl rfl (zq rfl rfl) (zg rfl rfl (zN rfl rfl rfl) (zg rfl rfl (zN rfl rfl rfl) (zg rfl rfl (zW rfl rfl) (zg rfl rfl (zn rfl rfl) ?_)))))))))))
     refine zo (zf (zuy (zuy (zh (zg rfl rfl (zi rfl rfl) (zg rfl rfl (vg rfl rfl rfl) (zg rfl rfl (zi rfl rfl) (zk rfl rfl rfl (fun hg=>zi rfl rfl) (zk rfl rfl rfl (fun hg=>je rfl (rfl)) (zg rfl rfl (qU rfl rfl rfl rfl) (zg rfl rfl (zi rfl rfl) ?_)))))))))))
     refine zk rfl rfl rfl (fun hg=>zi rfl rfl) (zk rfl rfl rfl (fun hg=>vg rfl (rfl) rfl) (zg rfl rfl (qU rfl rfl rfl rfl) (zg rfl rfl (zi rfl rfl) (zk rfl rfl rfl (fun hg=>zu rfl rfl zHx) (zk rfl rfl rfl (fun hg=>zA rfl (rfl) rfl zHR) (zk rfl rfl rfl (fun hg=>zuB rfl (rfl) Tryz.underlying27) (zk rfl rfl rfl (fun hg=>zu rfl rfl zH6) (zk rfl rfl rfl (fun hg=>zA rfl (rfl) rfl ty3) (zk rfl rfl rfl (fun hg=>zu rfl rfl zI9) (zk rfl rfl rfl (fun hg=>zA rfl (rfl) rfl ty3) ?_))))))))))
     refine zk rfl rfl rfl (fun hg=>zcY rfl (rfl) (rfl) ⟨(by first | omega | (simp at hg; omega)), (by first | omega | (simp at hg; omega))⟩) ?_
     refine zk rfl rfl rfl (fun hg=>vg rfl (rfl) (rfl)) (zg rfl rfl (qU rfl rfl rfl rfl) (zo (zf (zx rfl (fun h4=>?_) (fun h4=>?_)))))
     ·
      exfalso; simp at h4; omega
     ·
      refine zC (zf (zuy (zuy (zh (zg rfl rfl (zn rfl rfl) (zo (zf (zB ?_))))))))
      refine qy (ι:={ k:Nat // k <= m.st.length }) (fun k=>⟨Tryz.f14.ntmps, frL [(2, I lvl), (3, .pub (.ptr (eMp m))), (13, .pub (zH7 L)), (15, I (k.1:Int))], []⟩) (fun k=>m.st.length - k.1) (⟨0, by simp⟩) ?_ ?_
      ·
       exact zt _ ⟨rfl, rfl, rfl, rfl, trivial⟩ (rfl)
      ·
       rintro ⟨k, hk⟩
       dsimp only
       refine zuy (zuy (zh (zg rfl rfl (zi rfl rfl) (zg rfl rfl (zu rfl rfl zHN) (zg rfl rfl (zA rfl rfl rfl zah) (zg rfl rfl (zuB rfl rfl Tryz.underlying22) (zg rfl rfl (zUB rfl rfl rfl) (zo (zf (zx rfl (fun h5=>?_) (fun h5=>?_)))))))))))
       ·
        have hkl:k < m.st.length:=by simpa using h5
        have hsm:=List.getElem_mem hkl
        refine zC (zf (zuy (zB (zuy (zh (zg rfl rfl (zu rfl rfl zHN) (zg rfl rfl (zA rfl rfl rfl zah) (zg rfl rfl (zi rfl rfl) (zg rfl rfl (zG rfl rfl rfl zjm (by omega) (zIR hkl) zIs) (zg rfl rfl (zZ rfl rfl zIf (by exact zLb rfl)) ?_))))))))))
        refine vI  rfl rfl rfl rfl rfl rfl rfl zKF zIf rfl (by rfl) (zY rfl) rfl ?_
        refine zo (zf (zuy (zh (zg rfl rfl (zn rfl rfl) (zo (zf (zB ?_)))))))
        refine qy (ι:={ a:Nat // a <= L.length }) (fun a=>⟨Tryz.f14.ntmps, frL [(2, I lvl), (3, .pub (.ptr (eMp m))), (13, .pub (zH7 L)), (15, I (k:Int)), (16, .pub (.ptr (zIW m.st[k]))), (17, I (a.1:Int))], []⟩) (fun a=>L.length - a.1) (⟨0, by simp⟩) ?_ ?_
        ·
         exact zt _ ⟨rfl, rfl, rfl, rfl, rfl, rfl, trivial⟩ (rfl)
        ·
         rintro ⟨a, ha⟩
         dsimp only
         refine zuy (zuy (zh (zg rfl rfl (zi rfl rfl) (zg rfl rfl (zq rfl rfl) (zg rfl rfl (zuB rfl rfl Tryz.underlying37) (zg rfl rfl (zUB rfl rfl rfl) (zo (zf (zx rfl (fun h6=>?_) (fun h6=>?_))))))))))
         ·
          have hlt:a < L.length:=by simpa using h6
          have hlk:=hLL.2 _ (List.getElem_mem hlt)
          refine zC (zf (zuy (zB (zuy (zh (zg rfl rfl (zn rfl rfl) (zo (zf (zB ?_)))))))))
          refine qy (ι:={ b:Nat // b <= L[a].length }) (fun b=>⟨Tryz.f14.ntmps, frL [(2, I lvl), (3, .pub (.ptr (eMp m))), (13, .pub (zH7 L)), (15, I (k:Int)), (16, .pub (.ptr (zIW m.st[k]))), (17, I (a:Int)), (18, I (b.1:Int))], []⟩) (fun b=>L[a].length - b.1) (⟨0, by simp⟩) ?_ ?_
          ·
           exact zt _ ⟨rfl, rfl, rfl, rfl, rfl, rfl, rfl, trivial⟩ (rfl)
          ·
           rintro ⟨b, hb⟩
           dsimp only
           refine zuy (zuy (zh (zg rfl rfl (zi rfl rfl) (zg rfl rfl (zq rfl rfl) (zg rfl rfl (zi rfl rfl) (zg rfl rfl (zG rfl rfl rfl zJQ (by omega) (zSs hlt) zIb) (zg rfl rfl (zA rfl rfl rfl zKE) (zg rfl rfl (zuB rfl rfl Tryz.underlying48) (zg rfl rfl (zUB rfl rfl rfl) (zo (zf (zx rfl (fun h7=>?_) (fun h7=>?_)))))))))))))
           ·
            have hjl:b < L[a].length:=by simpa using h7
            have hnn:=hno L[a] (List.getElem_mem hlt) b hjl m.st[k] hsm
            refine zC (zf (zuy (zB (zuy ?_))))
            refine qY mixed (by kernel_rfl) rfl ?_
            refine zH rfl (zq rfl rfl) (zH rfl (zi rfl rfl) (zH rfl (zG rfl rfl rfl zJQ (by omega) (zSs hlt) zIb) (zH rfl (zA rfl rfl rfl zKE) (zH rfl (zi rfl rfl) (zH rfl (zG rfl rfl rfl zt9 (by omega) (zIU hjl) zH4) (zH rfl (zu rfl rfl zJn) (zH rfl (zA rfl rfl rfl ty3) (zH rfl (zu rfl rfl zIq) (zH rfl (zA rfl rfl rfl ty3) (zH rfl (qJ rfl rfl rfl) (zH rfl (zi rfl rfl) ?_)))))))))))
            refine jm rfl (fun hg=>zi rfl rfl) (jm rfl (fun hg=>zu rfl rfl zHJ) (jm rfl (fun hg=>zu rfl (if_pos hg) zHY) (jm rfl (fun hg=>zA rfl (if_pos hg) rfl ty3) (jm rfl (fun hg=>zaq rfl (if_pos hg) (if_pos hg)) (zH rfl (qI rfl rfl rfl rfl) (zH rfl (zi rfl rfl) (jm rfl (fun hg=>zq rfl rfl) (jm rfl (fun hg=>zi rfl rfl) (jm rfl (fun hg=>zG rfl (ifp hg) (ifp hg) zJQ (by omega) (zSs hlt) zIb) (jm rfl (fun hg=>zA rfl (if_pos hg) rfl zKE) (jm rfl (fun hg=>zi rfl rfl) ?_)))))))))))
            refine jm rfl (fun hg=>zG rfl (ifp hg) (ifp hg) zt9 (by omega) (zIU hjl) zH4) (jm rfl (fun hg=>zu rfl (if_pos hg) zJ2) (jm rfl (fun hg=>zA rfl (if_pos hg) rfl ty3) (jm rfl (fun hg=>zu rfl rfl zIq) (jm rfl (fun hg=>zA rfl (if_pos hg) rfl ty3) (jm rfl (fun hg=>qJ rfl (if_pos hg) (if_pos hg)) (jm rfl (fun hg=>zi rfl (if_pos hg)) (jm (jH rfl rfl rfl) (fun hg=>zi rfl rfl) (jm (jH rfl rfl rfl) (fun hg=>zu rfl rfl zHJ) (jm (jH rfl rfl rfl) (fun hg=>zu rfl (if_pos hg) zHX) (jm (jH rfl rfl rfl) (fun hg=>zA rfl (if_pos hg) rfl ty3) (jm (jH rfl rfl rfl) (fun hg=>qR rfl (if_pos hg) (if_pos hg)) ?_)))))))))))
            refine jm rfl (fun hg=>qI rfl (if_pos hg) (zha hg) rfl) (zH rfl (qU rfl rfl rfl rfl) (jw (zf (zx rfl (fun h8=>?_) (fun h8=>?_)))))
            ·
             exfalso; exact Bool.noConfusion (hnn.symm.trans h8)
            ·
             refine zC (zD (zf (zh (zg rfl rfl (zi rfl rfl) (zg rfl rfl (zV rfl rfl rfl ⟨(by omega), (by omega)⟩) (zg rfl rfl (zn rfl rfl) (zo ?_)))))))
             exact ⟨⟨b + 1, by omega⟩, by dsimp only; omega, zt _ ⟨rfl, rfl, rfl, rfl, rfl, rfl, rfl, trivial⟩ (rfl)⟩
           ·
            have hge:L[a].length <= b:=by simpa using h7
            refine qp (zRQ (zRQ (qw (zD (zf (zh (zg rfl rfl (zi rfl rfl) (zg rfl rfl (zV rfl rfl rfl ⟨(by omega), (by omega)⟩) (zg rfl rfl (zn rfl rfl) (zo ?_))))))))))
            exact ⟨⟨a + 1, by omega⟩, by dsimp only; omega, zt _ ⟨rfl, rfl, rfl, rfl, rfl, rfl, trivial⟩ (rfl)⟩
         ·
          have hge:L.length <= a:=by simpa using h6
          refine qp (zRQ (zRQ (qw (zD (zf (zh (zg rfl rfl (zi rfl rfl) (zg rfl rfl (zV rfl rfl rfl ⟨(by omega), (by omega)⟩) (zg rfl rfl (zn rfl rfl) (zo ?_))))))))))
          exact ⟨⟨k + 1, by omega⟩, by dsimp only; omega, zt _ ⟨rfl, rfl, rfl, rfl, trivial⟩ (rfl)⟩
       ·
        have hge:m.st.length <= k:=by simpa using h5
        refine qp (zRQ (zRQ (qw (zf (zuy (zh (zg rfl rfl (zy (av:=[]) rfl trivial hkn) (zg rfl rfl (zn rfl rfl) (zo (zf (zP ?_)))))))))))
        exact ⟨.inr rfl, AVle.refl _⟩
theorem f14 (hkn:KN GT) (m:Mp) (f:Fld) (lvl:Int):ACall Tryz.prog GT 14 [.agg (eMp m), .agg (zHF f), ei lvl] (.v (.bool true)):=by
 by_cases h:m.st.length <= 16 /\ f.vals.length <= 40 /\ zNr m = true /\ zHz f = true /\ inB lvl 1 99999 = true
 ·
  obtain ⟨h1, h2, h3, h4, h5⟩:=h
  have hm:=(zMw m).1 h3
  cases hc:zH5 m with
  | none=>exact zVO hkn m f lvl h1 h2 hm h4 h5 hc
  | some p=>exact zVf hkn m f lvl h1 h2 hm h4 h5 p hc
 ·
  exact zVp hkn m f lvl h
end Go.Av
end
