import Derived.Test.YtdjncbjfejdamaaGreatDoorChN
import Derived.Test.YtdjncbjfejdamaaGreatDoorChF
set_option linter.unusedVariables false
set_option linter.unusedSimpArgs false
section
namespace Go.Av
open Go.Proofs
def dN (W i j:Nat):Nat:=((i / W - j / W) + (j / W - i / W)) + ((i % W - j % W) + (j % W - i % W))
theorem zUH (W i j:Nat):dist (W:Int) (i:Int) (j:Int) = (dN W i j:Int):=by
 unfold dist dN zSx
 rw [← Int.natCast_ediv, ← Int.natCast_ediv, ← Int.natCast_emod, ← Int.natCast_emod]
 generalize i / W = a; generalize j / W = b; generalize i % W = c; generalize j % W = d
 omega
theorem zVL (W i j k:Nat):dN W i j <= dN W i k + dN W k j:=by
 unfold dN
 generalize i / W = a; generalize j / W = b; generalize i % W = c; generalize j % W = d; generalize k / W = e; generalize k % W = f
 omega
theorem zVx {W i j:Nat} (h:dN W i j = 0):i = j:=by
 unfold dN at h
 have h1:i / W = j / W:=by
  generalize i / W = a at *; generalize j / W = b at *; generalize i % W = c at *; generalize j % W = d at *
  omega
 have h2:i % W = j % W:=by
  generalize i / W = a at *; generalize j / W = b at *; generalize i % W = c at *; generalize j % W = d at *
  omega
 rw [← Nat.div_add_mod i W, ← Nat.div_add_mod j W, h1, h2]
theorem zVA {W R i j:Nat} (hW:0 < W) (hi:i < W * R) (hj:j < W * R) (h:dN W i j ≠ 0):∃ k, k < W * R /\ dN W i k = 1 /\ dN W k j + 1 = dN W i j:=by
 have hqi:i / W < R:=Nat.div_lt_of_lt_mul hi
 have hqj:j / W < R:=Nat.div_lt_of_lt_mul hj
 have hri:=Nat.mod_lt i hW
 have hrj:=Nat.mod_lt j hW
 have mk:∀ q r, q < R -> r < W -> W * q + r < W * R /\ (W * q + r) / W = q /\ (W * q + r) % W = r:=fun q r hq hr=>by
  refine ⟨?_, ?_, ?_⟩
  ·
   have:W * (q + 1) <= W * R:=Nat.mul_le_mul_left _ hq
   rw [Nat.mul_succ] at this; omega
  ·
   rw [Nat.mul_add_div hW, Nat.div_eq_of_lt hr]; omega
  ·
   rw [Nat.mul_add_mod, Nat.mod_eq_of_lt hr]
 unfold dN at h ⊢
 generalize i / W = qi at *
 generalize j / W = qj at *
 generalize i % W = ri at *
 generalize j % W = rj at *
 by_cases h1:qi < qj
 ·
  obtain ⟨a1, a2, a3⟩:=mk (qi + 1) ri (by omega) hri
  exact ⟨_, a1, by rw [a2, a3]; omega, by rw [a2, a3]; omega⟩
 ·
  by_cases h2:qj < qi
  ·
   obtain ⟨a1, a2, a3⟩:=mk (qi - 1) ri (by omega) hri
   exact ⟨_, a1, by rw [a2, a3]; omega, by rw [a2, a3]; omega⟩
  ·
   by_cases h3:ri < rj
   ·
    obtain ⟨a1, a2, a3⟩:=mk qi (ri + 1) hqi (by omega)
    exact ⟨_, a1, by rw [a2, a3]; omega, by rw [a2, a3]; omega⟩
   ·
    obtain ⟨a1, a2, a3⟩:=mk qi (ri - 1) hqi (by omega)
    exact ⟨_, a1, by rw [a2, a3]; omega, by rw [a2, a3]; omega⟩
theorem lip {V:Nat -> Int} {s:Int} {W R:Nat} (hW:0 < W) (h:∀ i j, i < W * R -> j < W * R -> dN W i j = 1 -> V i - V j <= s):
  ∀ (d i j:Nat), dN W i j = d -> i < W * R -> j < W * R -> V i - V j <= s * (d:Int)
 | 0, i, j, hd, _, _=>by rw [zVx hd]; simp
 | d + 1, i, j, hd, hi, hj=>by
  obtain ⟨k, k1, k2, k3⟩:=zVA hW hi hj (by omega)
  have h1:=h i k hi k1 k2
  have h2:=lip hW h d k j (by omega) k1 hj
  have:s * ((d + 1:Nat):Int) = s * (d:Int) + s:=by push_cast; rw [Int.mul_add]; omega
  omega
def vAt (f:Fld) (i:Nat):Int:=f.vals.getD i 0
structure FitsM (m:Mp) (f:Fld):Prop where
 wide:f.wide = m.wide
 len:(f.vals.length:Int) = m.wide * m.rows
 near:∀ i j, i < f.vals.length -> j < f.vals.length -> dist m.wide (i:Int) (j:Int) = 1 -> vAt f i - vAt f j <= m.slope
 st:∀ s ∈ m.st, s.lo <= vAt f s.pt.toNat /\ vAt f s.pt.toNat <= s.hi
theorem okM.W {m:Mp} (hm:okM m):∃ W R:Nat, m.wide = (W:Int) /\ m.rows = (R:Int) /\ 0 < W /\ 0 < R /\ W <= 6 /\ R <= 5:=by
 obtain ⟨m1, m2, m3, m4, _⟩:=hm
 exact ⟨m.wide.toNat, m.rows.toNat, by omega, by omega, by omega, by omega, by omega, by omega⟩
theorem FitsM.lip {m:Mp} {f:Fld} (h:FitsM m f) (hm:okM m) {i j:Nat} (hi:i < f.vals.length) (hj:j < f.vals.length):vAt f i - vAt f j <= m.slope * dist m.wide (i:Int) (j:Int):=by
 obtain ⟨W, R, eW, eR, hW, _⟩:=hm.W
 have hlen:f.vals.length = W * R:=by have:=h.len; rw [eW, eR] at this; exact_mod_cast this
 have hn:=h.near
 rw [eW] at hn ⊢
 rw [zUH]
 rw [hlen] at hi hj hn
 exact Go.Av.lip hW (fun i j hi hj hd=>hn i j hi hj (by rw [zUH, hd]; rfl)) _ i j rfl hi hj
theorem FitsM.pt {m:Mp} {f:Fld} (h:FitsM m f) (hm:okM m) {s:Stn} (hs:s ∈ m.st):∃ p:Nat, s.pt = (p:Int) /\ p < f.vals.length:=by
 have:=hm.2.2.2.2.2.2.2 s hs
 exact ⟨s.pt.toNat, by omega, by have:=h.len; omega⟩
theorem FitsM.lo {m:Mp} {f:Fld} (h:FitsM m f) (hm:okM m) {i:Nat} (hi:i < f.vals.length) (hv:0 <= vAt f i):zIE m.wide m.slope (i:Int) m.st <= vAt f i:=
 zJK _ (fun b=>b <= vAt f i) m.st 0 hv fun b s hs hb=>by
  obtain ⟨p, ep, hp⟩:=h.pt hm hs
  have h1:=h.st _ hs
  have l1:=h.lip hm hp hi
  rw [zUD] at l1
  rw [ep] at *
  simp only[Int.toNat_natCast] at h1
  omega
theorem FitsM.hi {m:Mp} {f:Fld} (h:FitsM m f) (hm:okM m) {i:Nat} (hi:i < f.vals.length) (hv:vAt f i <= 99999):vAt f i <= zIJ m.wide m.slope (i:Int) m.st:=
 zJK _ (fun b=>vAt f i <= b) m.st 99999 hv fun b s hs hb=>by
  obtain ⟨p, ep, hp⟩:=h.pt hm hs
  have h1:=h.st _ hs
  have l1:=h.lip hm hi hp
  rw [ep] at *
  simp only[Int.toNat_natCast] at h1
  omega
end Go.Av
end
section
namespace Go.Av
open Go.Proofs
theorem zVa {w sl p:Int} {l:List Stn} {s:Stn} (hs:s ∈ l):s.lo - sl * dist w p s.pt <= zIE w sl p l:=by
 unfold zIE
 have key:∀ (l:List Stn) (b:Int), b <= l.foldl (fun a s=>max a (s.lo - sl * dist w p s.pt)) b:=by
  intro l
  induction l with
  | nil=>intro b; exact Int.le_refl _
  | cons t l ih=>intro b; exact Int.le_trans (Int.le_max_left _ _) (ih _)
 have key2:∀ (l:List Stn) (b:Int), s ∈ l -> s.lo - sl * dist w p s.pt <= l.foldl (fun a s=>max a (s.lo - sl * dist w p s.pt)) b:=by
  intro l
  induction l with
  | nil=>intro b h; cases h
  | cons t l ih=>
   intro b h
   rcases List.mem_cons.1 h with rfl | h
   ·
    exact Int.le_trans (Int.le_max_right _ _) (key l _)
   ·
    exact ih _ h
 exact key2 l 0 hs
theorem zU9 {w sl p:Int} {l:List Stn} {s:Stn} (hs:s ∈ l):zIJ w sl p l <= s.hi + sl * dist w p s.pt:=by
 unfold zIJ
 have key:∀ (l:List Stn) (b:Int), l.foldl (fun a s=>min a (s.hi + sl * dist w p s.pt)) b <= b:=by
  intro l
  induction l with
  | nil=>intro b; exact Int.le_refl _
  | cons t l ih=>intro b; exact Int.le_trans (ih _) (Int.min_le_left _ _)
 have key2:∀ (l:List Stn) (b:Int), s ∈ l -> l.foldl (fun a s=>min a (s.hi + sl * dist w p s.pt)) b <= s.hi + sl * dist w p s.pt:=by
  intro l
  induction l with
  | nil=>intro b h; cases h
  | cons t l ih=>
   intro b h
   rcases List.mem_cons.1 h with rfl | h
   ·
    exact Int.le_trans (key l _) (Int.min_le_right _ _)
   ·
    exact ih _ h
 exact key2 l 99999 hs
theorem zVb {w sl p X:Int} {l:List Stn} (h0:0 <= X) (h:∀ s ∈ l, s.lo - sl * dist w p s.pt <= X):zIE w sl p l <= X:=
 zJK _ (fun b=>b <= X) l 0 h0 fun b s hs hb=>by have:=h s hs; omega
theorem zVc {w sl p X:Int} {l:List Stn} (h0:X <= 99999) (h:∀ s ∈ l, X <= s.hi + sl * dist w p s.pt):X <= zIJ w sl p l:=
 zJK _ (fun b=>X <= b) l 99999 h0 fun b s hs hb=>by have:=h s hs; omega
theorem zVw {W:Nat} {a b c:Int} (ha:0 <= a) (hb:0 <= b) (hc:0 <= c):dist (W:Int) a b <= dist (W:Int) a c + dist (W:Int) c b:=by
 obtain ⟨a, rfl⟩:=Int.eq_ofNat_of_zero_le ha
 obtain ⟨b, rfl⟩:=Int.eq_ofNat_of_zero_le hb
 obtain ⟨c, rfl⟩:=Int.eq_ofNat_of_zero_le hc
 rw [zUH, zUH, zUH]
 have:=zVL W a b c
 omega
theorem zVQ {s a b c:Int} (hs:0 <= s) (h:a <= b + c):s * a <= s * b + s * c:=by
 rw [← Int.mul_add]; exact Int.mul_le_mul_of_nonneg_left h hs
theorem okM.tri {m:Mp} (hm:okM m) {a b c:Int} (ha:0 <= a) (hb:0 <= b) (hc:0 <= c):m.slope * dist m.wide a b <= m.slope * dist m.wide a c + m.slope * dist m.wide c b:=by
 obtain ⟨W, R, eW, _⟩:=hm.W
 rw [eW]
 exact zVQ hm.2.2.2.2.1 (zVw ha hb hc)
theorem okM.dnn {m:Mp} (hm:okM m) {a b:Int} (ha:0 <= a) (hb:0 <= b):0 <= m.slope * dist m.wide a b:=by
 obtain ⟨W, R, eW, _⟩:=hm.W
 obtain ⟨a, rfl⟩:=Int.eq_ofNat_of_zero_le ha
 obtain ⟨b, rfl⟩:=Int.eq_ofNat_of_zero_le hb
 rw [eW, zUH]
 exact Int.mul_nonneg hm.2.2.2.2.1 (by omega)
theorem okM.pt0 {m:Mp} (hm:okM m) {s:Stn} (hs:s ∈ m.st):0 <= s.pt:=(hm.2.2.2.2.2.2.2 s hs).1
theorem zUW {m:Mp} (hm:okM m) (hc:zH5 m = none) {s t:Stn} (hs:s ∈ m.st) (ht:t ∈ m.st):s.lo - m.slope * dist m.wide s.pt t.pt <= t.hi:=by
 obtain ⟨a, ha, rfl⟩:=List.getElem_of_mem hs
 obtain ⟨b, hb, rfl⟩:=List.getElem_of_mem ht
 have key:∀ x y:Nat, (hx:x < m.st.length) -> (hy:y < m.st.length) -> x < y -> m.st[x].lo - m.slope * dist m.wide m.st[x].pt m.st[y].pt <= m.st[y].hi /\ m.st[y].lo - m.slope * dist m.wide m.st[x].pt m.st[y].pt <= m.st[x].hi:=fun x y hx hy hxy=>by
  have:=zUN hc x y hxy hy
  rw [zKf hx hy] at this
  unfold apartB at this
  simp only[Bool.or_eq_false_iff, decide_eq_false_iff_not] at this
  omega
 rcases Nat.lt_trichotomy a b with h | h | h
 ·
  exact (key a b ha hb h).1
 ·
  subst h
  rw [zUG]
  have:=hm.2.2.2.2.2.2.2 _ hs
  omega
 ·
  have:=(key b a hb ha h).2
  rw [zUD]; exact this
section
variable {m:Mp}
theorem zVI (hm:okM m) {i j:Int} (hi:0 <= i) (hj:0 <= j):zIE m.wide m.slope i m.st <= zIE m.wide m.slope j m.st + m.slope * dist m.wide i j:=
 zVb (by have:=hm.dnn hi hj; have:0 <= zIE m.wide m.slope j m.st:=zJK _ (fun b=>0 <= b) m.st 0 (Int.le_refl _) (fun b s _ hb=>by omega); omega) fun s hs=>by
  have h1:=zVa (w:=m.wide) (sl:=m.slope) (p:=j) hs
  have h2:=hm.tri (a:=j) (b:=s.pt) (c:=i) hj (hm.pt0 hs) hi
  rw [zUD m.wide j i] at h2
  omega
theorem zVN (hm:okM m) {i j:Int} (hi:0 <= i) (hj:0 <= j):zIJ m.wide m.slope i m.st <= zIJ m.wide m.slope j m.st + m.slope * dist m.wide i j:=by
 have:zIJ m.wide m.slope i m.st - m.slope * dist m.wide i j <= zIJ m.wide m.slope j m.st:=zVc (by
  have:=hm.dnn hi hj
  have:zIJ m.wide m.slope i m.st <= 99999:=zJK _ (fun b=>b <= 99999) m.st 99999 (Int.le_refl _) (fun b s _ hb=>by omega)
  omega) fun s hs=>by
  have h1:=zU9 (w:=m.wide) (sl:=m.slope) (p:=i) hs
  have h2:=hm.tri (a:=i) (b:=s.pt) (c:=j) hi (hm.pt0 hs) hj
  omega
 omega
theorem zVT (hm:okM m) (hc:zH5 m = none) {s:Stn} (hs:s ∈ m.st):s.lo <= zIE m.wide m.slope s.pt m.st /\ zIE m.wide m.slope s.pt m.st <= s.hi:=by
 have h1:=zVa (w:=m.wide) (sl:=m.slope) (p:=s.pt) hs
 rw [zUG] at h1
 refine ⟨by omega, zVb (by have:=hm.2.2.2.2.2.2.2 s hs; omega) fun t ht=>?_⟩
 have:=zUW hm hc ht hs
 rw [zUD] at this; exact this
theorem zVW (hm:okM m) (hc:zH5 m = none) {s:Stn} (hs:s ∈ m.st):s.lo <= zIJ m.wide m.slope s.pt m.st /\ zIJ m.wide m.slope s.pt m.st <= s.hi:=by
 have h1:=zU9 (w:=m.wide) (sl:=m.slope) (p:=s.pt) hs
 rw [zUG] at h1
 refine ⟨zVc (by have:=hm.2.2.2.2.2.2.2 s hs; omega) fun t ht=>?_, by omega⟩
 have:=zUW hm hc hs ht
 omega
def fnF (m:Mp) (g:Nat -> Int):Fld:=⟨m.wide, (List.range (npt m)).map g⟩
theorem zUT (g:Nat -> Int):(fnF m g).vals.length = npt m:=by simp [fnF]
theorem zU4 {g:Nat -> Int} {i:Nat} (hi:i < npt m):vAt (fnF m g) i = g i:=by simp [vAt, fnF, List.getD, hi]
theorem zVt (hm:okM m) {g:Nat -> Int} (h1:∀ i j:Nat, g i <= g j + m.slope * dist m.wide (i:Int) (j:Int)) (h2:∀ s ∈ m.st, s.lo <= g s.pt.toNat /\ g s.pt.toNat <= s.hi):FitsM m (fnF m g):=by
 have hn:=zJF hm
 refine ⟨rfl, by rw [zUT]; exact hn.1, fun i j hi hj hd=>?_, fun s hs=>?_⟩
 ·
  rw [zUT] at hi hj
  rw [zU4 hi, zU4 hj]
  have:=h1 i j
  rw [hd] at this
  omega
 ·
  have:=hm.2.2.2.2.2.2.2 s hs
  rw [zU4 (by omega)]
  exact h2 s hs
theorem zVn (hm:okM m) {g:Nat -> Int} (h:∀ i, i < npt m -> 0 <= g i /\ g i <= 99999):zHz (fnF m g) = true:=by
 have hn:=zJF hm
 have ho:=hm
 obtain ⟨m1, m2, m3, m4, _⟩:=ho
 have hw:(fnF m g).wide = m.wide:=rfl
 unfold zHz zH2 zJM
 rw [zUT, hw, hn.1]
 have e1:m.wide * m.rows % m.wide = 0:=Int.mul_emod_right _ _
 have e2:m.wide * m.rows / m.wide = m.rows:=Int.mul_ediv_cancel_left _ (by omega)
 rw [e1, e2, zdh.2 ⟨m1, m2⟩, zdh.2 ⟨m3, m4⟩]
 simp only[beq_self_eq_true, Bool.and_self, Bool.true_and, Bool.not_eq_true', List.any_eq_false]
 intro n hn'
 obtain ⟨i, hi, rfl⟩:=List.mem_map.1 hn'
 have:=zdh.2 (h i (List.mem_range.1 hi))
 simp [this]
def loG (m:Mp) (i:Nat):Int:=zIE m.wide m.slope (i:Int) m.st
def hiG (m:Mp) (i:Nat):Int:=zIJ m.wide m.slope (i:Int) m.st
def zG (m:Mp) (p:Nat) (n:Int) (i:Nat):Int:=min (hiG m i) (n + m.slope * dist m.wide (p:Int) (i:Int))
theorem zVE (hm:okM m) {s:Stn} (hs:s ∈ m.st):((s.pt.toNat:Nat):Int) = s.pt:=by have:=hm.pt0 hs; omega
theorem zYC (hm:okM m) (hc:zH5 m = none) {p:Nat} {n:Int} (h1:loG m p <= n):FitsM m (fnF m (zG m p n)):=by
 refine zVt hm (fun i j=>?_) fun s hs=>?_
 ·
  have a:=zVN hm (i:=(i:Int)) (j:=(j:Int)) (by omega) (by omega)
  have b:=hm.tri (a:=(p:Int)) (b:=(i:Int)) (c:=(j:Int)) (by omega) (by omega) (by omega)
  rw [zUD m.wide (j:Int) (i:Int)] at b
  unfold zG hiG
  omega
 ·
  have a:=zVW hm hc hs
  have b:=zVa (w:=m.wide) (sl:=m.slope) (p:=(p:Int)) hs
  unfold zG hiG
  unfold loG at h1
  rw [zVE hm hs]
  omega
theorem zVK (hm:okM m) {i:Nat} (hi:i < npt m):0 <= loG m i /\ loG m i <= 99999:=by
 have hn:=zJF hm
 have:=hm.lo (p:=(i:Int)) (by omega) m.st.length
 rw [List.take_of_length_le (Nat.le_refl _)] at this
 exact this
theorem zVH (hm:okM m) {i:Nat} (hi:i < npt m):0 <= hiG m i /\ hiG m i <= 99999:=by
 have hn:=zJF hm
 have:=hm.hi (p:=(i:Int)) (by omega) m.st.length
 rw [List.take_of_length_le (Nat.le_refl _)] at this
 exact this
theorem zY2 (hm:okM m) {p:Nat} {n:Int} (h0:0 <= n) {i:Nat} (hi:i < npt m):0 <= zG m p n i /\ zG m p n i <= 99999:=by
 have a:=zVH hm hi
 have b:=hm.dnn (a:=(p:Int)) (b:=(i:Int)) (by omega) (by omega)
 unfold zG; omega
end
end Go.Av
end
section
namespace Go.Av
open Go.Proofs
set_option maxRecDepth 100000
def mG (m:Mp) (i:Nat):Int:=(loG m i + hiG m i) / 2
theorem zUZ (m:Mp):zN6 m = fnF m (mG m):=rfl
theorem zVe {m:Mp} (hm:okM m) (hc:zH5 m = none):FitsM m (zN6 m):=by
 rw [zUZ]
 refine zVt hm (fun i j=>?_) fun s hs=>?_
 ·
  have h1:=zVI hm (i:=(i:Int)) (j:=(j:Int)) (by omega) (by omega)
  have h2:=zVN hm (i:=(i:Int)) (j:=(j:Int)) (by omega) (by omega)
  unfold mG loG hiG
  omega
 ·
  have h1:=zVT hm hc hs
  have h2:=zVW hm hc hs
  unfold mG loG hiG
  rw [zVE hm hs]
  omega
theorem zU3 {m:Mp} (hm:okM m):zHz (zN6 m) = true:=by
 rw [zUZ]
 refine zVn hm fun i hi=>?_
 have h1:=zVK hm hi
 have h2:=zVH hm hi
 unfold mG
 omega
end Go.Av
end
