
import Derived.Test.YtaphehlgijlfeaaGreatDoorWiY3
import Derived.Test.YtaphehlgijlfeaaGreatDoorWiH
import Derived.Test.YtaphehlgijlfeaaGreatDoorPlatQ
set_option linter.unusedVariables false
set_option linter.unusedSimpArgs false
section
namespace Go.Av
open Go.Proofs
set_option maxRecDepth 100000
set_option maxHeartbeats 1000000
variable {G : Glob}
theorem zDC {n : Int} {ts : List (List UInt8)} (h : ts.all (ofB tkR) = true) : inB n 0 9999 = zAq n ts := by
 unfold zAq inB
 rw [h, Bool.and_true, Bool.eq_iff_iff]; simp
theorem zDQ {n : Int} {ts : List (List UInt8)} {k : Nat} (hk : k < ts.length) (h : ofB tkR ts[k] = false) : zAq n ts = false := by
 unfold zAq
 rw [show ts.all (ofB tkR) = false from by rw [List.all_eq_false]; exact ⟨ts[k], List.getElem_mem hk, by rw [h]; decide⟩, Bool.and_false]
def mkD (n : Int) : Nat -> Int
 | 0 => n
 | k + 1 => mkD n k / 10
def lkD (n : Int) : Nat -> List UInt8
 | 0 => [chD (n % 10)]
 | k + 1 => chD (mkD n (k + 1) % 10) :: lkD n k
def hiD (m : Int) : List UInt8 := if m < 10 then [] else Lib.itoa (m / 10)
theorem zCR {n : Int} (h : 0 <= n) : Lib.itoa n = hiD n ++ [chD (n % 10)] := by
 unfold Lib.itoa hiD chD
 rw [if_neg (by omega), Lib.decDigits]
 by_cases h1 : n < 10
 ·
  rw [dif_pos (by omega), if_pos h1, show n % 10 = n by omega, show (48 + n).toNat = 48 + n.toNat by omega]; rfl
 ·
  rw [dif_neg (by omega), if_neg h1]
  unfold Lib.itoa
  rw [if_neg (by omega), show (n / 10).toNat = n.toNat / 10 by omega, show (48 + n % 10).toNat = 48 + n.toNat % 10 by omega]
theorem zED {n : Int} (h : 0 <= n) : Lib.itoa n = hiD (mkD n 0) ++ lkD n 0 := zCR h
theorem zDX {n : Int} {k : Nat} (h : Lib.itoa n = hiD (mkD n k) ++ lkD n k) (h10 : 10 <= mkD n k) : Lib.itoa n = hiD (mkD n (k + 1)) ++ lkD n (k + 1) := by
 rw [h, show lkD n (k + 1) = chD (mkD n (k + 1) % 10) :: lkD n k from rfl, show mkD n (k + 1) = mkD n k / 10 from rfl]
 rw [show hiD (mkD n k) = Lib.itoa (mkD n k / 10) from by unfold hiD; rw [if_neg (by omega)], zCR (n := mkD n k / 10) (by omega)]
 simp
theorem zEd {n : Int} {k : Nat} (h : Lib.itoa n = hiD (mkD n k) ++ lkD n k) (h10 : mkD n k < 10) : lkD n k = Lib.itoa n := by
 rw [h]; unfold hiD; rw [if_pos h10]; rfl
def spR (m k : Nat) : List UInt8 := [if k % 5 = 4 ∨ k + 1 = m then 10 else 32]
theorem zCk {m : Nat} {ts : List (List UInt8)} {k : Nat} (h : k < ts.length) : zAo m 0 (ts.take (k + 1)) = zAo m 0 (ts.take k) ++ ts[k] ++ spR m k := by
 rw [List.take_succ_eq_append_getElem h, zCj]
 have : (ts.take k).length = k := by simp; omega
 simp [zAo, this, spR]
def hdR (n : Int) (m : Nat) : List UInt8 := [110, 111, 32] ++ Lib.itoa n ++ [32, 119, 111, 114, 100, 115, 32] ++ Lib.itoa (m : Int) ++ [10]
theorem zEc (n : Int) (ts : List (List UInt8)) : hdR n ts.length ++ zAo ts.length 0 ts ++ [101, 110, 100, 32] ++ Lib.itoa (ckT n ts / 100) ++ Lib.itoa (ckT n ts / 10 % 10) ++ Lib.itoa (ckT n ts % 10) ++ [10] = txt n ts := by
 simp [txt, hdR, d3, wNo, wWd, zAQ]
theorem zBn {m : Nat} : ∀ {ts : List (List UInt8)} {i : Nat}, (∀ t ∈ ts, t.length = 5) -> (zAo m i ts).length = 6 * ts.length
 | [], _, _ => by simp [zAo]
 | t :: ts, i, h => by
  have h1 := zBn (m := m) (ts := ts) (i := i + 1) fun x hx => h x (List.mem_cons_of_mem _ hx)
  have h2 := h t (List.mem_cons_self ..)
  simp only [zAo, List.length_append, List.length_cons, List.length_nil, h1]; omega
theorem zDK {n : Int} {m : Nat} (h : 0 <= n /\ n <= 9999) (hm : m <= 9999) : (hdR n m).length <= 100 := by
 have h1 := zAw h
 have h2 := zAw (n := (m : Int)) (by omega)
 simp only [hdR, List.length_append, List.length_cons, List.length_nil]; omega
theorem f128 (w : List UInt8) (hl : w.length <= 1000000) : ACall Tryz.prog G 128 [eS w] (.v (.bool (ofB tkR w))) := by
 refine zS Tryz.func128 rfl (by kernel_rfl) rfl ?_
 refine zl (zh (zg rfl rfl (zn rfl rfl) (zo (zf (zl (zl (zh (zg rfl rfl (zn rfl rfl) (zo (zf (zB ?_)))))))))))
 refine qy (ι := { k : Nat // k <= w.length /\ (w.take k).all (fun b => tkR (b.toNat : Int)) = true }) (fun k => ⟨Tryz.f128.ntmps, frL [(0, SL w), (3, I (k.1 : Int))], []⟩) (fun k => w.length - k.1) (⟨0, by simp⟩) ?_ ?_
 ·
  exact zt _ ⟨rfl, rfl, trivial⟩ (rfl)
 ·
  rintro ⟨k, hk⟩
  dsimp only
  refine zl (zl (zh (zg rfl rfl (zi rfl rfl) (zg rfl rfl (zi rfl rfl) (zg rfl rfl (wE rfl rfl Tryz.underlying9) (zg rfl rfl (qi rfl rfl rfl) (zo (zf (zx rfl (fun h0 => ?_) (fun h0 => ?_))))))))))
  ·
   have hkl : k < w.length := by simp at h0; omega
   refine zC (zf (zl (zB (zl (zh (zg rfl rfl (zi rfl rfl) (zg rfl rfl (zi rfl rfl) ?_)))))))
   refine zg rfl rfl (wC rfl rfl rfl Tryz.underlying9 (by omega) (by rw [Int.toNat_natCast]; exact List.getElem?_eq_getElem hkl)) ?_
   refine zg rfl rfl (zy (av := [_]) rfl ⟨rfl, trivial⟩ (f120 _)) (zg rfl rfl (je rfl rfl) (zg rfl rfl (zi rfl rfl) (zk rfl rfl rfl (fun hg => zi rfl rfl) (zk rfl rfl rfl (fun hg => zi rfl rfl) ?_))))
   refine zk rfl rfl rfl (fun hg => wC rfl (if_pos hg) (if_pos hg) Tryz.underlying9 (by omega) (by rw [Int.toNat_natCast]; exact List.getElem?_eq_getElem hkl)) ?_
   refine zk rfl rfl rfl (fun hg => zy (av := [_]) rfl ⟨((if_pos hg)), trivial⟩ (f109 _)) (zk rfl rfl rfl (fun hg => je rfl (if_pos hg)) (zg rfl rfl (qI rfl rfl rfl rfl) (zg rfl rfl (zi rfl rfl) (zk rfl rfl rfl (fun hg => zi rfl rfl) (zk rfl rfl rfl (fun hg => zi rfl rfl) ?_)))))
   refine zk rfl rfl rfl (fun hg => wC rfl (if_pos hg) (if_pos hg) Tryz.underlying9 (by omega) (by rw [Int.toNat_natCast]; exact List.getElem?_eq_getElem hkl)) ?_
   refine zk rfl rfl rfl (fun hg => vg rfl (if_pos hg) rfl) (zg rfl rfl (qI rfl rfl rfl rfl) (zo (zf (zx rfl (fun h1 => ?_) (fun h1 => ?_)))))
   ·
    have hno : tkR (w[k].toNat : Int) = false := by simp [tkR, zf4] at h1 ⊢; refine ⟨⟨?_, ?_⟩, ?_⟩ <;> first | exact h1.1.1 | exact h1.1.2 | exact h1.2 | omega
    refine zl (zh (zg rfl rfl (zn rfl rfl) (zo (zf (zP (qF (zQ (zQ (qF (zQ ?_))))))))))
    exact ⟨.inr rfl, AVle.of (by rw [zqo hkl hno])⟩
   ·
    have hyes : tkR (w[k].toNat : Int) = true := by simp [tkR, zf4] at h1 ⊢; cases hf : zl8 (w[k].toNat : Int) <;> cases hl : zCl (w[k].toNat : Int) <;> simp_all
    refine zC (zD (zf (zh (zg rfl rfl (zi rfl rfl) (zg rfl rfl (zV rfl rfl rfl ⟨(by omega), (by omega)⟩) (zg rfl rfl (zn rfl rfl) (zo ?_)))))))
    exact ⟨⟨k + 1, by omega, zd3 hk.2 hkl hyes⟩, by dsimp only; omega, zt _ ⟨rfl, rfl, trivial⟩ (rfl)⟩
  ·
   have hge : w.length <= k := by simp at h0; omega
   refine qp (zL (zL (qw (zf (zl (zh (zg rfl rfl (zi rfl rfl) (zg rfl rfl (wE rfl rfl Tryz.underlying9) (zg rfl rfl (qJ rfl rfl rfl) (zg rfl rfl (zn rfl rfl) (zo ?_)))))))))))
   refine zf (zP ?_)
   exact ⟨.inr rfl, AVle.of (by rw [List.take_of_length_le hge] at hk; rw [ofB, hk.2, Bool.true_and]; exact congrArg (fun x : Bool => AV.v (Value.bool x)) (by rw [Bool.eq_iff_iff]; simp; omega))⟩
theorem f75 (n : Int) (ts : List (List UInt8)) (hl : ts.length <= 1000) (ht : ∀ t ∈ ts, t.length <= 1000) : ACall Tryz.prog G 75 [ei n, jD ts] (.v (.bool (zAq n ts))) := by
 refine zS Tryz.func75 rfl (by kernel_rfl) rfl ?_
 refine zl (zh (zg rfl rfl (zn rfl rfl) (zo (zf (zl (zl (zh (zg rfl rfl (zn rfl rfl) (zo (zf (zB ?_)))))))))))
 refine qy (ι := { k : Nat // k <= ts.length /\ (ts.take k).all (ofB tkR) = true }) (fun k => ⟨Tryz.f75.ntmps, frL [(0, I n), (1, .pub (jD ts)), (5, I (k.1 : Int))], []⟩) (fun k => ts.length - k.1) (⟨0, by simp⟩) ?_ ?_
 ·
  exact zt _ ⟨rfl, rfl, rfl, trivial⟩ (rfl)
 ·
  rintro ⟨k, hk⟩
  dsimp only
  refine zl (zl (zh (zg rfl rfl (zi rfl rfl) (zg rfl rfl (zq rfl rfl) (zg rfl rfl (qh rfl rfl rfl Tryz.underlying34) (zg rfl rfl (qi rfl rfl rfl) (zo (zf (zx rfl (fun h0 => ?_) (fun h0 => ?_))))))))))
  ·
   have hkl : k < ts.length := by simpa [jD] using h0
   refine zC (zf (zl (zB (zl (zh (zg rfl rfl (zq rfl rfl) (zg rfl rfl (zi rfl rfl) (zg rfl rfl (zG rfl rfl rfl yJ (by omega) (zAD hkl) vZ) (zg rfl rfl (zA rfl rfl rfl ty9) ?_)))))))))
   refine zg rfl rfl (zy (av := [_]) rfl ⟨rfl, trivial⟩ (f128 ts[k] (by have := ht _ (List.getElem_mem hkl); omega))) ?_
   refine zg rfl rfl (je rfl rfl) (zo (zf (zx rfl (fun h1 => ?_) (fun h1 => ?_))))
   ·
    have hno : ofB tkR ts[k] = false := by simpa using h1
    refine zl (zh (zg rfl rfl (zn rfl rfl) (zo (zf (zP (qF (zQ (zQ (qF (zQ ?_))))))))))
    exact ⟨.inr rfl, AVle.of (by rw [zDQ hkl hno])⟩
   ·
    have hyes : ofB tkR ts[k] = true := by simpa using h1
    refine zC (zD (zf (zh (zg rfl rfl (zi rfl rfl) (zg rfl rfl (zV rfl rfl rfl ⟨(by omega), (by omega)⟩) (zg rfl rfl (zn rfl rfl) (zo ?_)))))))
    exact ⟨⟨k + 1, by omega, xQ hk.2 hkl hyes⟩, by dsimp only; omega, zt _ ⟨rfl, rfl, rfl, trivial⟩ (rfl)⟩
  ·
   have hge : ts.length <= k := by simpa [jD] using h0
   refine qp (zL (zL (qw (zf (zl (zh (zg rfl rfl (zi rfl rfl) (zg rfl rfl (zy (av := [_, _, _]) rfl ⟨rfl, rfl, rfl, trivial⟩ (f93 _ _ _)) (zg rfl rfl (zn rfl rfl) (zo (zf ?_)))))))))))
   refine zP ?_
   exact ⟨.inr rfl, AVle.of (by rw [List.take_of_length_le hge] at hk; rw [zDC hk.2])⟩
theorem f131 (n : Int) (hn : 0 <= n /\ n <= 9999) : ACall Tryz.prog G 131 [ei n] (eS (Lib.itoa n)) := by
 refine zS Tryz.func131 rfl (by kernel_rfl) rfl ?_
 refine zl (zh (zg rfl rfl (zn rfl rfl) (zo (zf (zl (zh (zg rfl rfl (zi rfl rfl) (zg rfl rfl (yA rfl rfl rfl ⟨(by omega), (by omega)⟩) (zg rfl rfl (zV rfl rfl rfl ⟨(by omega), (by omega)⟩) (zg rfl rfl (y8 rfl rfl Tryz.underlying3 Tryz.underlying5 (wrap_u8 (by omega))) ?_))))))))))
 refine zg rfl rfl (qg (size := 1) (rows := [[_]]) rfl Tryz.underlying48 ti5 rfl (by decide) rfl (by decide) ⟨_, _, rfl, (jF rfl), rfl⟩ (by rfl) (by simp [ofV]) rfl (by simp)) ?_
 refine zg rfl rfl (zax (ns := [48 + n % 10]) rfl rfl Tryz.underlying48 Tryz.underlying5 Tryz.underlying9) (zg rfl rfl (zn rfl rfl) (zo (zf (zl (zB ?_)))))
 refine qy (ι := { k : Nat // 0 <= mkD n k /\ mkD n k <= 9999 /\ Lib.itoa n = hiD (mkD n k) ++ lkD n k }) (fun k => ⟨Tryz.f131.ntmps, frL [(0, I (mkD n k.1)), (3, SL (lkD n k.1))], []⟩) (fun k => (mkD n k.1).toNat) (⟨0, hn.1, hn.2, zED hn.1⟩) ?_ ?_
 ·
  exact zt _ ⟨rfl, rfl, trivial⟩ (rfl)
 ·
  rintro ⟨k, hk⟩
  dsimp only
  refine zl (zl (zh (zg rfl rfl (zi rfl rfl) (zg rfl rfl (zbe rfl rfl rfl) (zo (zf (zx rfl (fun h0 => ?_) (fun h0 => ?_))))))))
  ·
   have h10 : 10 <= mkD n k := by simpa using h0
   have hms : mkD n (k + 1) = mkD n k / 10 := rfl
   refine zC (zf (zB (zl (zh (zg rfl rfl (zi rfl rfl) (zg rfl rfl (zcj rfl rfl rfl ⟨(by omega), (by omega), (by omega)⟩) (zg rfl rfl (zn rfl rfl) (zo (zf (zh (zg rfl rfl (zi rfl rfl) ?_)))))))))))
   refine zg rfl rfl (yA rfl rfl rfl ⟨(by omega), (by omega)⟩) (zg rfl rfl (zV rfl rfl rfl ⟨(by omega), (by omega)⟩) (zg rfl rfl (y8 rfl rfl Tryz.underlying3 Tryz.underlying5 (wrap_u8 (by omega))) ?_))
   refine zg rfl rfl (qg (size := 1) (rows := [[_]]) rfl Tryz.underlying48 ti5 rfl (by decide) rfl (by decide) ⟨_, _, rfl, (jF rfl), rfl⟩ (by rfl) (by simp [ofV]) rfl (by simp)) ?_
   refine zg rfl rfl (zax (ns := [48 + mkD n (k + 1) % 10]) rfl rfl Tryz.underlying48 Tryz.underlying5 Tryz.underlying9) (zg rfl rfl (zi rfl rfl) ?_)
   refine zg rfl rfl (zcI rfl rfl rfl (by have h4 := zAw hn; rw [hk.2.2] at h4; simp only [List.length_append, List.length_map, List.length_cons, List.length_nil] at h4 ⊢; omega)) ?_
   refine zg rfl rfl (zn rfl rfl) (zo (zD ?_))
   exact ⟨⟨k + 1, by omega, by omega, zDX hk.2.2 h10⟩, by dsimp only; omega, zt _ ⟨rfl, rfl, trivial⟩ (rfl)⟩
  ·
   have h10 : mkD n k < 10 := by simpa using h0
   refine qp (zL (zL (qw (zf (zl (zh (zg rfl rfl (zi rfl rfl) (zg rfl rfl (zn rfl rfl) (zo (zf (zP ?_)))))))))))
   exact ⟨.inr rfl, AVle.of (by rw [zEd hk.2.2 h10])⟩
theorem zEx {i j : Int} (h : i = j) (hb : 0 <= j /\ j <= 9999) : ACall Tryz.prog G 131 [ei i] (eS (Lib.itoa j)) := by subst h; exact f131 i hb
theorem f77 (n : Int) (ts : List (List UInt8)) (hl : ts.length <= 8) (htl : zAq n ts = true) : ACall Tryz.prog G 77 [ei n, jD ts] (eS (txt n ts)) := by
 have ht1 := zDf htl
 have hn4 := zAw ht1.1
 have hm4 := zAw (n := (ts.length : Int)) (by omega)
 have hcb := zAV n ts
 have hwb := zBq ts 0 (by omega) ht1.2
 have hH := zDK ht1.1 (m := ts.length) (by omega)
 have hq1 := zAw (n := ckT n ts / 100) (by omega)
 have hq2 := zAw (n := ckT n ts / 10 % 10) (by omega)
 have hq3 := zAw (n := ckT n ts % 10) (by omega)
 refine zS Tryz.func77 rfl (by kernel_rfl) rfl ?_
 refine zl (zh (zg rfl rfl (zn rfl rfl) (zo (zf (zl (zh (zg rfl rfl (zi rfl rfl) (zg rfl rfl (zy (av := [_]) rfl ⟨rfl, trivial⟩ (f131 n (by omega))) ?_))))))))
 refine zg rfl rfl (zcI rfl rfl rfl (by first | omega | (simp; omega))) ?_
 refine zg rfl rfl (zcI rfl rfl rfl (by first | omega | (simp; omega))) ?_
 refine zg rfl rfl (zq rfl rfl) (zg rfl rfl (qh rfl rfl rfl Tryz.underlying34) ?_)
 refine zg rfl rfl (zy (av := [_]) rfl ⟨rfl, trivial⟩ (zEx (j := (ts.length : Int)) (by simp) (by omega))) ?_
 refine zg rfl rfl (zcI rfl rfl rfl (by first | omega | (simp; omega))) ?_
 refine zg rfl rfl (zcI rfl rfl rfl (by first | omega | (simp; omega))) ?_
 refine zg rfl rfl (zn rfl rfl) (zo (zf (zl (zh (zg rfl rfl (zi rfl rfl) (zg rfl rfl (zn rfl rfl) (zo (zf (zl (zl (zh ?_)))))))))))
 refine zg rfl rfl (zn rfl rfl) (zo (zf (zB ?_)))
 refine qy (ι := { k : Nat // k <= ts.length }) (fun k => ⟨Tryz.f77.ntmps, frL [(1, .pub (jD ts)), (5, SL (hdR n ts.length ++ zAo ts.length 0 (ts.take k.1))), (6, I (n + wts 0 (ts.take k.1))), (7, I (k.1 : Int))], []⟩) (fun k => ts.length - k.1) (⟨0, by omega⟩) ?_ ?_
 ·
  exact zt _ ⟨rfl, (congrArg SL (by simp [hdR, zAo])), (congrArg I (by simp [wts])), rfl, trivial⟩ (rfl)
 ·
  rintro ⟨k, hk⟩
  dsimp only
  refine zl (zl (zh (zg rfl rfl (zi rfl rfl) (zg rfl rfl (zq rfl rfl) (zg rfl rfl (qh rfl rfl rfl Tryz.underlying34) (zg rfl rfl (qi rfl rfl rfl) (zo (zf (zx rfl (fun h0 => ?_) (fun h0 => ?_))))))))))
  ·
   have hlt : k < ts.length := by simpa [jD] using h0
   have hk5 := ht1.2 _ (List.getElem_mem hlt)
   have hkb := zBq (ts.take k) 0 (by simp; omega) (fun t h => ht1.2 t (List.mem_of_mem_take h))
   have hkl : (ts.take k).length = k := by simp; omega
   have hbl := zBn (m := ts.length) (ts := ts.take k) (i := 0) (fun t h => ht1.2 t (List.mem_of_mem_take h))
   refine zC (zf (zl (zB (zl (zl (zh (zg rfl rfl (zn rfl rfl) (zo (zf (zB ?_))))))))))
   refine qy (ι := { j : Nat // j <= (ts[k]'hlt).length }) (fun j => ⟨Tryz.f77.ntmps, frL [(1, .pub (jD ts)), (5, SL (hdR n ts.length ++ zAo ts.length 0 (ts.take k))), (6, I ((n + wts 0 (ts.take k)) + wtk (k : Int) 0 ((ts[k]'hlt).take j.1))), (7, I (k : Int)), (8, I (j.1 : Int))], []⟩) (fun j => (ts[k]'hlt).length - j.1) (⟨0, by omega⟩) ?_ ?_
   ·
    exact zt _ ⟨rfl, rfl, (congrArg I (by simp [wtk])), rfl, rfl, trivial⟩ (rfl)
   ·
    rintro ⟨j, hj⟩
    dsimp only
    refine zl (zl (zh (zg rfl rfl (zi rfl rfl) (zg rfl rfl (zq rfl rfl) (zg rfl rfl (zi rfl rfl) (zg rfl rfl (zG rfl rfl rfl yJ (by omega) (zAD hlt) vZ) (zg rfl rfl (zA rfl rfl rfl ty9) (zg rfl rfl (wE rfl rfl Tryz.underlying9) (zg rfl rfl (qi rfl rfl rfl) (zo (zf (zx rfl (fun h1 => ?_) (fun h1 => ?_)))))))))))))
    ·
     have hlj : j < (ts[k]'hlt).length := by simpa using h1
     have hjb := zBO (i := (k : Int)) (by omega) ((ts[k]'hlt).take j) 0 (by simp; omega)
     have hjl : ((ts[k]'hlt).take j).length = j := by simp; omega
     have hbb : 0 <= (((ts[k]'hlt)[j]'hlj).toNat : Int) /\ (((ts[k]'hlt)[j]'hlj).toNat : Int) <= 255 := ⟨by omega, by have := ((ts[k]'hlt)[j]'hlj).toNat_lt; omega⟩
     have hm1 := zwa hbb (show 0 <= (j : Int) + 1 /\ (j : Int) + 1 <= 5 by omega)
     have hm2 := zwa hm1 (show 0 <= (k : Int) + 1 /\ (k : Int) + 1 <= 8 by omega)
     refine zC (zf (zl (zB (zh (zg rfl rfl (zi rfl rfl) (zg rfl rfl (zq rfl rfl) (zg rfl rfl (zi rfl rfl) (zg rfl rfl (zG rfl rfl rfl yJ (by omega) (zAD hlt) vZ) (zg rfl rfl (zA rfl rfl rfl ty9) (zg rfl rfl (zi rfl rfl) ?_))))))))))
     refine zg rfl rfl (wC rfl rfl rfl Tryz.underlying9 (by omega) (by rw [Int.toNat_natCast]; exact List.getElem?_eq_getElem hlj)) ?_
     refine zg rfl rfl (y8 rfl rfl Tryz.underlying5 Tryz.underlying3 (zeq (by omega))) (zg rfl rfl (zi rfl rfl) (zg rfl rfl (zV rfl rfl rfl ⟨(by omega), (by omega)⟩) ?_))
     refine zg rfl rfl (zcY rfl rfl rfl ⟨by omega, by omega⟩) ?_
     refine zg rfl rfl (zi rfl rfl) (zg rfl rfl (zV rfl rfl rfl ⟨(by omega), (by omega)⟩) ?_)
     refine zg rfl rfl (zcY rfl rfl rfl ⟨by omega, by omega⟩) ?_
     refine zg rfl rfl (zV rfl rfl rfl ⟨(by omega), (by omega)⟩) (zg rfl rfl (zn rfl rfl) (zo (zD (zf (zh (zg rfl rfl (zi rfl rfl) (zg rfl rfl (zV rfl rfl rfl ⟨(by omega), (by omega)⟩) (zg rfl rfl (zn rfl rfl) (zo ?_)))))))))
     exact ⟨⟨j + 1, by omega⟩, by dsimp only; omega, zt _ ⟨rfl, rfl, (congrArg I (by rw [zCd hlj]; omega)), rfl, rfl, trivial⟩ (rfl)⟩
    ·
     have hgj : (ts[k]'hlt).length <= j := by simpa using h1
     have hj2 : (ts[k]'hlt).take j = ts[k]'hlt := List.take_of_length_le hgj
     refine qp (zL (zL (qw (zf (zl (zh (zg rfl rfl (zn rfl rfl) (zo (zf (zl (zl ?_)))))))))))
     refine zh (zg rfl rfl (zi rfl rfl) (zg rfl rfl (yA rfl rfl rfl ⟨(by omega), (by omega)⟩) (zg rfl rfl (qJ rfl rfl rfl) (zg rfl rfl (zi rfl rfl) (zk rfl rfl rfl (fun hg => zi rfl rfl) (zk rfl rfl rfl (fun hg => zq rfl rfl) (zk rfl rfl rfl (fun hg => zAp rfl (if_pos hg) Tryz.underlying34) ?_)))))))
     refine zk rfl rfl rfl (fun hg => ze5 rfl (if_pos hg) rfl ⟨by omega, by omega⟩) ?_
     refine zk rfl rfl rfl (fun hg => qJ rfl (if_pos hg) (if_pos hg)) (zg rfl rfl (qU rfl rfl rfl rfl) (zo (zf (zx rfl (fun h2 => ?_) (fun h2 => ?_)))))
     ·
      have hsp : spR ts.length k = [10] := by unfold spR; rw [if_pos (by simp at h2; omega)]
      refine zh (zg rfl rfl (zn rfl rfl) (zo (zf (zh (zg rfl rfl (zi rfl rfl) (zg rfl rfl (zq rfl rfl) (zg rfl rfl (zi rfl rfl) (zg rfl rfl (zG rfl rfl rfl yJ (by omega) (zAD hlt) vZ) (zg rfl rfl (zA rfl rfl rfl ty9) ?_)))))))))
      refine zg rfl rfl (zcI rfl rfl rfl (by first | omega | (simp; omega))) ?_
      refine zg rfl rfl (zi rfl rfl) ?_
      refine zg rfl rfl (zcI rfl rfl rfl (by first | omega | (simp; omega))) ?_
      refine zg rfl rfl (zn rfl rfl) (zo (zD (zf (zh (zg rfl rfl (zi rfl rfl) (zg rfl rfl (zV rfl rfl rfl ⟨(by omega), (by omega)⟩) (zg rfl rfl (zn rfl rfl) (zo ?_))))))))
      exact ⟨⟨k + 1, by omega⟩, by dsimp only; omega, zt _ ⟨rfl, (congrArg SL (by rw [zCk hlt, hsp]; simp)), (congrArg I (by rw [zBd hlt, hj2]; omega)), rfl, trivial⟩ (rfl)⟩
     ·
      have hsp : spR ts.length k = [32] := by unfold spR; rw [if_neg (by simp at h2; omega)]
      refine zC (zf (zh (zg rfl rfl (zi rfl rfl) (zg rfl rfl (zq rfl rfl) (zg rfl rfl (zi rfl rfl) (zg rfl rfl (zG rfl rfl rfl yJ (by omega) (zAD hlt) vZ) (zg rfl rfl (zA rfl rfl rfl ty9) ?_)))))))
      refine zg rfl rfl (zcI rfl rfl rfl (by first | omega | (simp; omega))) ?_
      refine zg rfl rfl (zi rfl rfl) ?_
      refine zg rfl rfl (zcI rfl rfl rfl (by first | omega | (simp; omega))) ?_
      refine zg rfl rfl (zn rfl rfl) (zo (zD (zf (zh (zg rfl rfl (zi rfl rfl) (zg rfl rfl (zV rfl rfl rfl ⟨(by omega), (by omega)⟩) (zg rfl rfl (zn rfl rfl) (zo ?_))))))))
      exact ⟨⟨k + 1, by omega⟩, by dsimp only; omega, zt _ ⟨rfl, (congrArg SL (by rw [zCk hlt, hsp]; simp)), (congrArg I (by rw [zBd hlt, hj2]; omega)), rfl, trivial⟩ (rfl)⟩
  ·
   have hge : ts.length <= k := by simpa [jD] using h0
   have hk2 : ts.take k = ts := List.take_of_length_le hge
   have hbl := zBn (m := ts.length) (ts := ts) (i := 0) ht1.2
   refine qp (zL (zL (qw (zf (zl ?_)))))
   refine qx (zt (mem' := []) [(5, SL (hdR n ts.length ++ zAo ts.length 0 ts)), (6, I (n + wts 0 ts))] ?_ ?_) ?_
   ·
    exact ⟨(congrArg (fun z => SL (hdR n ts.length ++ zAo ts.length 0 z)) hk2), (congrArg (fun z => I (n + wts 0 z)) hk2), trivial⟩
   ·
    exact (rfl)
   refine zh (zg rfl rfl (zi rfl rfl) (zg rfl rfl (yA rfl rfl rfl ⟨(by omega), (by omega)⟩) (zg rfl rfl (zn rfl rfl) (zo (zf (zl (zh (zg rfl rfl (zi rfl rfl) ?_))))))))
   refine zg rfl rfl (zcI rfl rfl rfl (by first | omega | (simp; omega))) ?_
   refine zg rfl rfl (zi rfl rfl) (zg rfl rfl (zcj rfl rfl rfl ⟨(by omega), (by omega), (by omega)⟩) (zg rfl rfl (zy (av := [_]) rfl ⟨rfl, trivial⟩ (f131 (ckT n ts / 100) (by omega))) ?_))
   refine zg rfl rfl (zcI rfl rfl rfl (by first | omega | (simp; omega))) ?_
   refine zg rfl rfl (zi rfl rfl) (zg rfl rfl (zcj rfl rfl rfl ⟨(by omega), (by omega), (by omega)⟩) (zg rfl rfl (yA rfl rfl rfl ⟨(by omega), (by omega)⟩) (zg rfl rfl (zy (av := [_]) rfl ⟨rfl, trivial⟩ (f131 (ckT n ts / 10 % 10) (by omega))) ?_)))
   refine zg rfl rfl (zcI rfl rfl rfl (by first | omega | (simp; omega))) ?_
   refine zg rfl rfl (zi rfl rfl) (zg rfl rfl (yA rfl rfl rfl ⟨(by omega), (by omega)⟩) (zg rfl rfl (zy (av := [_]) rfl ⟨rfl, trivial⟩ (f131 (ckT n ts % 10) (by omega))) ?_))
   refine zg rfl rfl (zcI rfl rfl rfl (by first | omega | (simp; omega))) ?_
   refine zg rfl rfl (zcI rfl rfl rfl (by first | omega | (simp; omega))) ?_
   refine zg rfl rfl (zn rfl rfl) (zo (zf (zP ?_)))
   exact ⟨.inr rfl, AVle.of (by rw [← zEc])⟩
end Go.Av
end
section
namespace Go.Av
open Go.Proofs
set_option maxRecDepth 100000
set_option maxHeartbeats 1000000
variable {G : Glob}
section
variable {st : ASt} {o : Oper}
theorem zEB {x : Operand} {s : List UInt8} (ho : o.op = .buildSlice 34 1 #[(0, x)]) (hd : vC o st.n = true) (hx : evO st.fr x = SL s) :
  OpM Tryz.prog G st o ⟨st.n, jr st.fr o.dst (.psl st.mem.length 1), st.mem ++ [.row [[SL s]]]⟩ :=
 zAl (rows := [[SL s]]) (qs := [(0, [SL s])]) (size := 1) ho hd Tryz.underlying34 ti9 rfl (by decide) rfl (by decide) ⟨_, _, rfl, jF hx, rfl⟩ rfl (by simp [SL, eS]) rfl (by decide) (by simp)
end
def zAJ (b : UInt8) : Bool := ((b.toNat : Int) == 32) || ((b.toNat : Int) == 10)
def spA (cur : List UInt8) : List UInt8 -> List (List UInt8)
 | [] => [cur]
 | b :: r => if zAJ b then cur :: spA [] r else spA (cur ++ [b]) r
def cuk (s : List UInt8) : Nat -> List UInt8
 | 0 => []
 | k + 1 => if zAJ (s.getD k 0) then [] else cuk s k ++ [s.getD k 0]
def dnk (s : List UInt8) : Nat -> List (List UInt8)
 | 0 => []
 | k + 1 => if zAJ (s.getD k 0) then dnk s k ++ [cuk s k] else dnk s k
theorem zDZ (s : List UInt8) : ∀ k, k <= s.length -> dnk s k ++ spA (cuk s k) (s.drop k) = spA [] s
 | 0, _ => by simp [dnk, cuk]
 | k + 1, h => by
  rw [← zDZ s k (by omega), List.drop_eq_getElem_cons (show k < s.length by omega)]
  have hg : s.getD k 0 = s[k] := by rw [List.getD_eq_getElem?_getD, List.getElem?_eq_getElem (by omega)]; rfl
  simp only [dnk, cuk, spA, hg]
  by_cases hs : zAJ s[k] = true
  ·
   simp [hs]
  ·
   simp [hs]
theorem zD2 (s : List UInt8) : dnk s s.length ++ [cuk s s.length] = spA [] s := by
 have := zDZ s s.length (Nat.le_refl _)
 rw [List.drop_length] at this; exact this
theorem zEg {s : List UInt8} {k : Nat} (h : k < s.length) (hs : zAJ s[k] = true) : dnk s (k + 1) = dnk s k ++ [cuk s k] /\ cuk s (k + 1) = [] := by
 have hg : s.getD k 0 = s[k] := by rw [List.getD_eq_getElem?_getD, List.getElem?_eq_getElem h]; rfl
 simp [dnk, cuk, hs, h]
theorem zEl {s : List UInt8} {k : Nat} (h : k < s.length) (hs : zAJ s[k] = false) : dnk s (k + 1) = dnk s k /\ cuk s (k + 1) = cuk s k ++ [s[k]] := by
 simp [dnk, cuk, hs, h]
theorem zCq (s : List UInt8) : ∀ k, (dnk s k).length <= k
 | 0 => by simp [dnk]
 | k + 1 => by
  have := zCq s k
  simp only [dnk]; split <;> simp <;> omega
theorem zDb (s : List UInt8) : ∀ k, (cuk s k).length <= k
 | 0 => by simp [cuk]
 | k + 1 => by
  have := zDb s k
  simp only [cuk]; split <;> simp <;> omega
theorem zBH : ∀ (s cur : List UInt8), smL (spA cur s) = cur.length + s.length + 1
 | [], cur => by simp [spA, smL]
 | b :: s, cur => by
  rw [spA]
  split
  ·
   rw [smL, zBH s []]; simp; omega
  ·
   rw [zBH s]; simp; omega
theorem zC9 {D : List (List UInt8)} {c c' : List UInt8} : ((D ++ [c]).map sE).set D.length (sE c') = (D ++ [c']).map sE := by
 simp
theorem zEp {s : List UInt8} {k : Nat} (h : k < s.length) : (s.take ((k : Int) + 1).toNat).drop ((k : Int)).toNat = [s[k]] := by
 rw [show ((k : Int) + 1).toNat = k + 1 by omega, Int.toNat_natCast, List.take_succ_eq_append_getElem h]
 have : (s.take k).length = k := by simp; omega
 rw [List.drop_append, this]; simp
theorem zCC : ∀ (w : List UInt8), (∀ b ∈ w, 48 <= b.toNat /\ b.toNat <= 57) -> w.length <= 4 -> 0 <= zAz w /\ zAz w <= 9999 := by
 intro w h hl
 match w, hl with
 | [], _ => simp [zAz]
 | [a], _ => have h1 := h a (by simp); simp only [zAz, List.foldl_cons, List.foldl_nil]; omega
 | [a, b], _ => have h1 := h a (by simp); have h2 := h b (by simp); simp only [zAz, List.foldl_cons, List.foldl_nil]; omega
 | [a, b, c], _ => have h1 := h a (by simp); have h2 := h b (by simp); have h3 := h c (by simp); simp only [zAz, List.foldl_cons, List.foldl_nil]; omega
 | [a, b, c, d], _ => have h1 := h a (by simp); have h2 := h b (by simp); have h3 := h c (by simp); have h4 := h d (by simp); simp only [zAz, List.foldl_cons, List.foldl_nil]; omega
def zCv (w : List UInt8) : Bool := w.all fun b => zl8 (b.toNat : Int)
theorem zB9 {w : List UInt8} (h : zCv w = true) : ∀ b ∈ w, 48 <= b.toNat /\ b.toNat <= 57 := fun b hb => by
 have := List.all_eq_true.1 h b hb
 simp only [zl8, Bool.and_eq_true, decide_eq_true_eq] at this; omega
def rdT (s : List UInt8) : List (List UInt8) := ((spA [] s).take ((spA [] s).length - 3)).drop 4
def rdN (s : List UInt8) : Int := zAz ((spA [] s).getD 1 [])
def rdH (s : List UInt8) : Bool := decide (7 <= (spA [] s).length) && decide (((spA [] s).getD 1 []).length <= 4) && zCv ((spA [] s).getD 1 []) && decide ((rdT s).length <= 8) && zAq (rdN s) (rdT s)
def rdR (s : List UInt8) : Int × List (List UInt8) × Bool := if rdH s = true then (rdN s, rdT s, txt (rdN s) (rdT s) == s) else (0, [], false)
theorem zCy {s : List UInt8} (h : rdH s = false) : rdR s = (0, [], false) := by unfold rdR; rw [h]; rfl
theorem zDh {s : List UInt8} (h : rdH s = true) : rdR s = (rdN s, rdT s, txt (rdN s) (rdT s) == s) := by unfold rdR; rw [h]; rfl
theorem zDu {F : List (List UInt8)} (h : 3 <= F.length) : AV.sl (((F.map fun s => [eS s]).take ((F.length : Int) - 3).toNat).drop (4 : Int).toNat) = jD ((F.take (F.length - 3)).drop 4) := by
 rw [show ((F.length : Int) - 3).toNat = F.length - 3 by omega, jD, List.map_drop, List.map_take]; rfl
theorem f132 (s : List UInt8) (hl : s.length <= 1000) : ACall Tryz.prog G 132 [eS s] (jD (spA [] s)) := by
 refine zS Tryz.func132 rfl (by kernel_rfl) rfl ?_
 refine zl (zh (zg rfl rfl (zn rfl rfl) (zo (zf (zl (zh (jb rfl (zEB rfl rfl rfl) (zg rfl rfl (qo rfl rfl) (zo (zf (zl ?_)))))))))))
 refine zl (zh (zg rfl rfl (zn rfl rfl) (zo (zf (zB ?_)))))
 refine qy (ι := { k : Nat // k <= s.length }) (fun k => ⟨Tryz.f132.ntmps, frL [(0, SL s), (3, .psl 0 ((dnk s k.1).length + 1)), (4, I (k.1 : Int))], [.row ((dnk s k.1 ++ [cuk s k.1]).map sE)]⟩) (fun k => s.length - k.1) (⟨0, by omega⟩) ?_ ?_
 ·
  exact zt _ ⟨rfl, rfl, rfl, trivial⟩ (rfl)
 ·
  rintro ⟨k, hk⟩
  dsimp only
  refine zl (zl (zh (zg rfl rfl (zi rfl rfl) (zg rfl rfl (zi rfl rfl) (zg rfl rfl (wE rfl rfl Tryz.underlying9) (zg rfl rfl (qi rfl rfl rfl) (zo (zf (zx rfl (fun h0 => ?_) (fun h0 => ?_))))))))))
  ·
   have hkl : k < s.length := by simpa using h0
   have hdl := zCq s k
   have hcl := zDb s k
   refine zC (zf (zl (zB (zl (zh (zg rfl rfl (zi rfl rfl) (zg rfl rfl (zi rfl rfl) ?_)))))))
   refine zg rfl rfl (wC rfl rfl rfl Tryz.underlying9 (by omega) (by rw [Int.toNat_natCast]; exact List.getElem?_eq_getElem hkl)) ?_
   refine zg rfl rfl (qJ rfl rfl rfl) (zg rfl rfl (zi rfl rfl) (zk rfl rfl rfl (fun hg => zi rfl rfl) (zk rfl rfl rfl (fun hg => zi rfl rfl) ?_)))
   refine zk rfl rfl rfl (fun hg => wC rfl (if_pos hg) (if_pos hg) Tryz.underlying9 (by omega) (by rw [Int.toNat_natCast]; exact List.getElem?_eq_getElem hkl)) ?_
   refine zk rfl rfl rfl (fun hg => qJ rfl (if_pos hg) rfl) (zg rfl rfl (qU rfl rfl rfl rfl) (zo (zf (zx rfl (fun h1 => ?_) (fun h1 => ?_)))))
   ·
    have hsp : zAJ s[k] = true := by simpa [zAJ] using h1
    have hst := zEg hkl hsp
    have hme : (dnk s k ++ [cuk s k]).map sE ++ [[SL []]] = (dnk s (k + 1) ++ [cuk s (k + 1)]).map sE := by rw [hst.1, hst.2]; simp [sE]
    have hln : (dnk s (k + 1)).length = (dnk s k).length + 1 := by rw [hst.1]; simp
    refine zh (zg rfl rfl (zI rfl rfl) ?_)
    refine zg rfl rfl (qg (size := 1) (rows := [[_]]) rfl Tryz.underlying34 ti9 rfl (by decide) rfl (by decide) ⟨_, _, rfl, (jF rfl), rfl⟩ (by rfl) (by simp [ofV]) rfl (by simp)) ?_
    refine jb rfl (vS rfl rfl rfl rfl (by simp) rfl zrL (by intro r hr; obtain ⟨n, _, rfl⟩ := List.mem_map.1 hr; rfl) (by simp) (by simp; omega) (by unfold maxLen; simp; omega)) ?_
    refine zg rfl rfl (qo rfl rfl) (zo (zD (zf (zh (zg rfl rfl (zi rfl rfl) (zg rfl rfl (zV rfl rfl rfl ⟨(by omega), (by omega)⟩) (zg rfl rfl (zn rfl rfl) (zo ?_))))))))
    exact ⟨⟨k + 1, by omega⟩, by dsimp only; omega, zt _ ⟨rfl, (congrArg (EV.psl 0) (by simp [hln])), rfl, trivial⟩ (congrArg (fun z => [PO.row z]) hme)⟩
   ·
    have hsp : zAJ s[k] = false := by simpa [zAJ] using h1
    have hst := zEl hkl hsp
    have hme : ((dnk s k ++ [cuk s k]).map sE).set (dnk s k).length (sE (cuk s k ++ [s[k]])) = (dnk s (k + 1) ++ [cuk s (k + 1)]).map sE := by rw [hst.1, hst.2]; exact zC9
    have hln : (dnk s (k + 1)).length = (dnk s k).length := by rw [hst.1]
    refine wR (fun _ => True) (fun k => match k with | 17 => .writes | _ => .here) mixed (by kernel_rfl) rfl (by kernel_rfl) trivial ?_
    refine zX rfl rfl (zI rfl rfl) (zX rfl rfl (zI rfl rfl) ?_)
    refine zX rfl rfl (jE rfl rfl rfl (by simp) Tryz.underlying34) ?_
    refine zX rfl rfl (zAW (y := .v (.int .i64 ((dnk s k).length : Int))) (congrArg (fun z : Int => AV.v (.int .i64 z)) (by omega)) (ze5 rfl rfl rfl ⟨by omega, by omega⟩)) ?_
    refine zX rfl rfl (zI rfl rfl) (zX rfl rfl (zI rfl rfl) ?_)
    refine zX rfl rfl (jE rfl rfl rfl (by simp) Tryz.underlying34) ?_
    refine zX rfl rfl (zAW (y := .v (.int .i64 ((dnk s k).length : Int))) (congrArg (fun z : Int => AV.v (.int .i64 z)) (by omega)) (ze5 rfl rfl rfl ⟨by omega, by omega⟩)) ?_
    refine zX rfl rfl (qc rfl rfl rfl rfl (by simp) yJ (by omega) (by omega) (by intro q hq; obtain ⟨b, _, rfl⟩ := List.mem_map.1 hq; rfl)) ?_
    refine zX rfl rfl (zK (r := sE (cuk s k)) rfl rfl rfl (by simp) (by simp) rfl ty9) ?_
    refine zX rfl rfl (zi rfl rfl) (zX rfl rfl (zi rfl rfl) (zX rfl rfl (zi rfl rfl) (zX rfl rfl (zV rfl rfl rfl ⟨(by omega), (by omega)⟩) (zX rfl rfl (zAW (y := eS [s[k]]) (congrArg eS (zEp hkl)) (zAB rfl rfl rfl rfl Tryz.underlying9 (by omega) (by omega) (by omega))) ?_))))
    refine zX rfl rfl (zcI rfl rfl rfl (by simp; omega)) ?_
    refine zX rfl rfl (qc rfl rfl rfl rfl (by simp) yJ (by omega) (by omega) (by intro q hq; obtain ⟨b, _, rfl⟩ := List.mem_map.1 hq; rfl)) ?_
    refine zaw rfl rfl (jk (r := sE (cuk s k)) rfl rfl rfl rfl (by simp) (by simp) (jF rfl) ty9 (by rfl) (by rfl)) trivial ?_
    refine wQ (zD (zf (zh (zg rfl rfl (zi rfl rfl) (zg rfl rfl (zV rfl rfl rfl ⟨(by omega), (by omega)⟩) (zg rfl rfl (zn rfl rfl) (zo ?_)))))))
    exact ⟨⟨k + 1, by omega⟩, by dsimp only; omega, zt _ ⟨rfl, (congrArg (EV.psl 0) (by simp [hln])), rfl, trivial⟩ (congrArg (fun z => [PO.row z]) hme)⟩
  ·
   have hge : s.length <= k := by simpa using h0
   have hk2 : k = s.length := by omega
   subst hk2
   have hdl := zCq s s.length
   refine qp (zL (zL (qw (zf (zl ?_)))))
   refine qx (zcT (k := 0) (m := (dnk s s.length).length + 1) (rows := (dnk s s.length ++ [cuk s s.length]).map fun x => [eS x]) [3] (by simp [Function.comp_def, sE]) (by simp) (by intro d hd; simp at hd; subst hd; rfl)) ?_
   refine zh (zg rfl rfl (zq rfl rfl) (zg rfl rfl (zW rfl rfl) (zo (zf (zP ?_)))))
   exact ⟨.inr rfl, AVle.of (by rw [← zD2]; rfl)⟩
theorem f78 (s : List UInt8) (hl : s.length <= 300) {a : Int} {b : List (List UInt8)} {c : Bool} (hr : rdR s = (a, b, c)) : ACall Tryz.prog G 78 [eS s] (.tup [ei a, jD b, .v (.bool c)]) := by
 obtain ⟨F, hF⟩ : ∃ F, spA [] s = F := ⟨_, rfl⟩
 have sp := f132 (G := G) s (by omega)
 rw [hF] at sp
 have hsum := zBH s []
 rw [hF] at hsum
 have hFl := zAM F
 rw [List.length_nil] at hsum
 obtain ⟨w, hw⟩ : ∃ w, F.getD 1 [] = w := ⟨_, rfl⟩
 have hTT : rdT s = (F.take (F.length - 3)).drop 4 := by unfold rdT; rw [hF]
 have hNN : rdN s = zAz w := by unfold rdN; rw [hF, hw]
 have hTm : ∀ t ∈ rdT s, t.length <= 1000 := fun t ht => by rw [hTT] at ht; have := zA8 (List.mem_of_mem_take (List.mem_of_mem_drop ht)); omega
 have hTl : (rdT s).length <= 301 := by rw [hTT]; simp; omega
 refine zS Tryz.func78 rfl (by kernel_rfl) rfl ?_
 refine zl (zh (zg rfl rfl (zn rfl rfl) (zg rfl rfl (zn rfl rfl) (zg rfl rfl (zn rfl rfl) (zo (zf (zl (zh (zg rfl rfl (zi rfl rfl) (zg rfl rfl (zy (av := [_]) rfl ⟨rfl, trivial⟩ sp) (zg rfl rfl (zW rfl rfl) ?_)))))))))))
 refine zo (zf (zl (zl (zh (zg rfl rfl (zq rfl rfl) (zg rfl rfl (zAp rfl rfl Tryz.underlying34) (zg rfl rfl (qi rfl rfl rfl) (zg rfl rfl (zi rfl rfl) (zk rfl rfl rfl (fun hg => zq rfl rfl) ?_)))))))))
 refine zk rfl rfl rfl (fun hg => zG rfl (if_pos hg) rfl yJ (by omega) (show _ = some [eS w] from by rw [← hw]; exact zAY (by simp at hg; omega)) vZ) ?_
 refine zk rfl rfl rfl (fun hg => zA rfl (if_pos hg) rfl ty9) (zk rfl rfl rfl (fun hg => wE rfl (if_pos hg) Tryz.underlying9) (zk rfl rfl rfl (fun hg => qR rfl (if_pos hg) rfl) (zg rfl rfl (qU rfl rfl rfl rfl) (zo (zf (zx rfl (fun h0 => ?_) (fun h0 => ?_)))))))
 ·
  have hz : a = 0 /\ b = [] /\ c = false := by rw [zCy (s := s) (by unfold rdH; rw [hF]; rw [hw]; simp at h0 ⊢; omega)] at hr; cases hr; exact ⟨rfl, rfl, rfl⟩
  refine zl (zh (zg rfl rfl (zn rfl rfl) (zg rfl rfl (zn rfl rfl) (zg rfl rfl (zn rfl rfl) (zo (zf (zP (zQ ?_))))))))
  exact ⟨.inr rfl, ⟨_, rfl, ⟨_, _, rfl, (by rw [hz.1]; exact AVle.refl _), ⟨_, _, rfl, (by rw [hz.2.1]; exact AVle.nil), ⟨_, _, rfl, (by rw [hz.2.2]; exact AVle.refl _), rfl⟩⟩⟩⟩⟩
 ·
  have hh : 7 <= F.length /\ w.length <= 4 := by simp at h0; omega
  have hw1 : (F.map fun s => [eS s])[(1 : Int).toNat]? = some [eS w] := by rw [← hw]; exact zAY (by omega)
  refine zC (zf (zl (zh (zg rfl rfl (zn rfl rfl) (zo (zf (zl (zl (zh (zg rfl rfl (zn rfl rfl) (zo ?_)))))))))))
  refine zf (zB ?_)
  refine qy (ι := { k : Nat // k <= w.length /\ zCv (w.take k) = true }) (fun k => ⟨Tryz.f78.ntmps, frL [(0, SL s), (5, .pub (jD F)), (6, I (zAz (w.take k.1))), (7, I (k.1 : Int))], []⟩) (fun k => w.length - k.1) (⟨0, by omega, by simp [zCv]⟩) ?_ ?_
  ·
   exact zt _ ⟨rfl, rfl, (congrArg I (by simp [zAz])), rfl, trivial⟩ (rfl)
  ·
   rintro ⟨k, hk⟩
   dsimp only
   refine zl (zl (zh (zg rfl rfl (zi rfl rfl) (zg rfl rfl (zq rfl rfl) (zg rfl rfl (zG rfl rfl rfl yJ (by omega) hw1 vZ) (zg rfl rfl (zA rfl rfl rfl ty9) (zg rfl rfl (wE rfl rfl Tryz.underlying9) (zg rfl rfl (qi rfl rfl rfl) (zo (zf (zx rfl (fun h1 => ?_) (fun h1 => ?_))))))))))))
   ·
    have hkl : k < w.length := by simpa using h1
    refine zC (zf (zl (zB (zl (zl (zh (zg rfl rfl (zq rfl rfl) (zg rfl rfl (zG rfl rfl rfl yJ (by omega) hw1 vZ) (zg rfl rfl (zA rfl rfl rfl ty9) (zg rfl rfl (zi rfl rfl) ?_))))))))))
    refine zg rfl rfl (wC rfl rfl rfl Tryz.underlying9 (by omega) (by rw [Int.toNat_natCast]; exact List.getElem?_eq_getElem hkl)) ?_
    refine zg rfl rfl (zy (av := [_]) rfl ⟨rfl, trivial⟩ (f120 _)) (zg rfl rfl (je rfl rfl) (zo (zf (zx rfl (fun h2 => ?_) (fun h2 => ?_)))))
    ·
     have hno : zl8 (w[k].toNat : Int) = false := by simpa using h2
     have hz : a = 0 /\ b = [] /\ c = false := by rw [zCy (s := s) (by unfold rdH; rw [hF]; rw [hw, show zCv w = false from by unfold zCv; rw [List.all_eq_false]; exact ⟨w[k], List.getElem_mem hkl, by rw [hno]; decide⟩]; simp)] at hr; cases hr; exact ⟨rfl, rfl, rfl⟩
     refine zl (zh (zg rfl rfl (zn rfl rfl) (zg rfl rfl (zn rfl rfl) (zg rfl rfl (zn rfl rfl) (zo (zf (zP (zQ (qF (zQ (zQ ?_)))))))))))
     refine qF (zQ ?_)
     exact ⟨.inr rfl, ⟨_, rfl, ⟨_, _, rfl, (by rw [hz.1]; exact AVle.refl _), ⟨_, _, rfl, (by rw [hz.2.1]; exact AVle.nil), ⟨_, _, rfl, (by rw [hz.2.2]; exact AVle.refl _), rfl⟩⟩⟩⟩⟩
    ·
     have hyes : zl8 (w[k].toNat : Int) = true := by simpa using h2
     have hfg : 48 <= (w[k].toNat : Int) /\ (w[k].toNat : Int) <= 57 := by simp [zl8] at hyes; omega
     have hnb := zCC (w.take k) (zB9 hk.2) (by simp; omega)
     refine zC (zf (zh (zg rfl rfl (zi rfl rfl) ?_)))
     refine zg rfl rfl (zcY rfl rfl rfl ⟨by omega, by omega⟩) ?_
     refine zg rfl rfl (zq rfl rfl) (zg rfl rfl (zG rfl rfl rfl yJ (by omega) hw1 vZ) (zg rfl rfl (zA rfl rfl rfl ty9) (zg rfl rfl (zi rfl rfl) ?_)))
     refine zg rfl rfl (wC rfl rfl rfl Tryz.underlying9 (by omega) (by rw [Int.toNat_natCast]; exact List.getElem?_eq_getElem hkl)) ?_
     refine zg rfl rfl (zhQ rfl rfl rfl (wrap_u8 (by omega))) (zg rfl rfl (y8 rfl rfl Tryz.underlying5 Tryz.underlying3 (zeq (by omega))) ?_)
     refine zg rfl rfl (zV rfl rfl rfl ⟨by omega, by omega⟩) ?_
     refine zg rfl rfl (zn rfl rfl) (zo (zD (zf (zh (zg rfl rfl (zi rfl rfl) (zg rfl rfl (zV rfl rfl rfl ⟨(by omega), (by omega)⟩) (zg rfl rfl (zn rfl rfl) (zo ?_))))))))
     exact ⟨⟨k + 1, by omega, zd3 hk.2 hkl hyes⟩, by dsimp only; omega, zt _ ⟨rfl, rfl, (congrArg I (by rw [List.take_succ_eq_append_getElem hkl, zBE])), rfl, trivial⟩ (rfl)⟩
   ·
    have hge : w.length <= k := by simpa using h1
    have hk2 : w.take k = w := List.take_of_length_le hge
    rw [hk2] at hk
    have hnb := zCC w (zB9 hk.2) hh.2
    refine qp (zL (zL (qw (zf (zl ?_)))))
    refine qx (zt (mem' := []) [(0, SL s), (5, .pub (jD F)), (6, I (zAz w))] ?_ ?_) ?_
    ·
     exact ⟨rfl, rfl, (congrArg (fun z => I (zAz z)) hk2), trivial⟩
    ·
     exact (rfl)
    refine zh (zg rfl rfl (zq rfl rfl) (zg rfl rfl (zq rfl rfl) (zg rfl rfl (zAp rfl rfl Tryz.underlying34) (zg rfl rfl (ze5 rfl rfl rfl ⟨(by omega), (by omega)⟩) ?_))))
    refine zg rfl rfl (zAW (y := jD (rdT s)) (by rw [hTT]; exact zDu (by omega)) (zhU rfl rfl rfl rfl yJ vZ (by omega) (by omega) (by rw [List.length_map]; omega))) ?_
    refine zg rfl rfl (zW rfl rfl) (zo (zf (zl (zl (zh (zg rfl rfl (zq rfl rfl) (zg rfl rfl (zAp rfl rfl Tryz.underlying34) (zg rfl rfl (qR rfl rfl rfl) (zg rfl rfl (zi rfl rfl) (zk rfl rfl rfl (fun hg => zi rfl rfl) (zk rfl rfl rfl (fun hg => zq rfl rfl) ?_)))))))))))
    refine zk rfl rfl rfl (fun hg => zy (av := [_, _]) rfl ⟨((if_pos hg)), ((if_pos hg)), trivial⟩ (f75 (zAz w) (rdT s) (by omega) hTm)) (zk rfl rfl rfl (fun hg => je rfl (if_pos hg)) (zg rfl rfl (qU rfl rfl rfl rfl) (zo (zf (zx rfl (fun h3 => ?_) (fun h3 => ?_))))))
    ·
     have hz : a = 0 /\ b = [] /\ c = false := by rw [zCy (s := s) (by unfold rdH; rw [hF]; rw [hw, hNN]; simp at h3 ⊢; intro _ _ _ h8; exact h3.resolve_left (by omega))] at hr; cases hr; exact ⟨rfl, rfl, rfl⟩
     refine zl (zh (zg rfl rfl (zn rfl rfl) (zg rfl rfl (zn rfl rfl) (zg rfl rfl (zn rfl rfl) (zo (zf (zP (zQ ?_))))))))
     exact ⟨.inr rfl, ⟨_, rfl, ⟨_, _, rfl, (by rw [hz.1]; exact AVle.refl _), ⟨_, _, rfl, (by rw [hz.2.1]; exact AVle.nil), ⟨_, _, rfl, (by rw [hz.2.2]; exact AVle.refl _), rfl⟩⟩⟩⟩⟩
    ·
     have htt : (rdT s).length <= 8 /\ zAq (zAz w) (rdT s) = true := by simp at h3; exact ⟨by omega, h3.2⟩
     have htb := htt.2
     have hz : a = zAz w /\ b = rdT s /\ c = (txt (zAz w) (rdT s) == s) := by rw [zDh (s := s) (by unfold rdH; rw [hF, hw, hk.2, hNN, htb]; simp; omega), hNN] at hr; cases hr; exact ⟨rfl, rfl, rfl⟩
     refine zC (zf (zl (zh (zg rfl rfl (zi rfl rfl) (zg rfl rfl (zq rfl rfl) (zg rfl rfl (zi rfl rfl) (zg rfl rfl (zq rfl rfl) (zg rfl rfl (zy (av := [_, _]) rfl ⟨rfl, rfl, trivial⟩ (f77 (zAz w) (rdT s) (by omega) htb)) (zg rfl rfl (zi rfl rfl) (zg rfl rfl (zof rfl rfl rfl) (zg rfl rfl (zn rfl rfl) ?_)))))))))))
     refine zg rfl rfl (zW rfl rfl) (zg rfl rfl (zn rfl rfl) (zo (zf (zP ?_))))
     exact ⟨.inr rfl, ⟨_, rfl, ⟨_, _, rfl, (by rw [hz.1]; exact AVle.refl _), ⟨_, _, rfl, (by rw [hz.2.1]; exact AVle.refl _), ⟨_, _, rfl, (by rw [hz.2.2]; exact AVle.refl _), rfl⟩⟩⟩⟩⟩
end Go.Av
end
