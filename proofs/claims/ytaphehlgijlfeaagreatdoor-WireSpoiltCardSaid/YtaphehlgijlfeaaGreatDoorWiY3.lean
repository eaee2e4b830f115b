
import Derived.Test.YtaphehlgijlfeaaGreatDoorWiY2
set_option linter.unusedVariables false
set_option linter.unusedSimpArgs false
section
namespace Go.Av
open Go.Proofs
set_option maxRecDepth 100000
set_option maxHeartbeats 1000000
variable {G : Glob}
theorem zv9 : (Tryz.prog.info? 9).bind (·.zero) = some (.string ⟨#[]⟩) := by kernel_rfl
theorem zEu {i j : Int} (h : i = j) (hb : 0 <= j /\ j <= 9999) : ACall Tryz.prog GT 161 [ei i] (eS (Lib.itoa j)) := by subst h; exact f161 i (by omega)
theorem zBO {i : Int} (hi : 0 <= i /\ i <= 7) : ∀ (t : List UInt8) (p : Nat), p + t.length <= 5 -> 0 <= wtk i p t /\ wtk i p t <= 10200 * (t.length : Int)
 | [], p, _ => by simp [wtk]
 | b :: t, p, h => by
  rw [List.length_cons] at h
  have ih := zBO hi t (p + 1) (by omega)
  have hb : 0 <= (b.toNat : Int) /\ (b.toNat : Int) <= 255 := ⟨by omega, by have := b.toNat_lt; omega⟩
  have h1 := zwa hb (show 0 <= (p : Int) + 1 /\ (p : Int) + 1 <= 5 by omega)
  have h2 := zwa h1 (show 0 <= i + 1 /\ i + 1 <= 8 by omega)
  rw [wtk, List.length_cons]; omega
theorem zBq : ∀ (ts : List (List UInt8)) (i : Nat), i + ts.length <= 8 -> (∀ t ∈ ts, t.length = 5) -> 0 <= wts i ts /\ wts i ts <= 51000 * (ts.length : Int)
 | [], i, _, _ => by simp [wts]
 | t :: ts, i, h, h5 => by
  rw [List.length_cons] at h
  have ih := zBq ts (i + 1) (by omega) fun x hx => h5 x (List.mem_cons_of_mem _ hx)
  have hl := h5 t (List.mem_cons_self ..)
  have h1 := zBO (i := (i : Int)) (by omega) t 0 (by omega)
  rw [hl] at h1
  rw [wts, List.length_cons]; omega
def hdT (n : Int) (m : Nat) : List UInt8 := zAA [wNo, Lib.itoa n, wWd, Lib.itoa (m : Int)]
def bdC (ts : List (List UInt8)) (k : Nat) : List UInt8 := ((List.range k).map fun c => zAA (zAs ts c)).flatten
def edT (s : Int) : List UInt8 := zAA [zAQ, d3 s]
def ptx (n : Int) (ts : List (List UInt8)) : List UInt8 := (hdT n ts.length ++ bdC ts (nCh ts)) ++ edT (ckT n ts)
theorem zBi (ts : List (List UInt8)) (k : Nat) : bdC ts (k + 1) = bdC ts k ++ zAA (zAs ts k) := by simp [bdC, List.range_succ]
theorem zBz (s : UInt8) : ∀ (ws : List (List UInt8)) (B : Nat), (∀ w ∈ ws, w.length <= B) -> (Lib.joinTail [s] ws).length <= ws.length * (B + 1)
 | [], B, _ => by simp [Lib.joinTail]
 | w :: ws, B, h => by
  have ih := zBz s ws B fun x hx => h x (List.mem_cons_of_mem _ hx)
  have h1 := h w (List.mem_cons_self ..)
  simp only [Lib.joinTail, List.map_cons, List.flatten_cons, List.length_append, List.length_cons, List.length_nil] at ih ⊢
  rw [Nat.add_mul]; omega
theorem zAF (ws : List (List UInt8)) (B : Nat) (h : ∀ w ∈ ws, w.length <= B) : (Lib.join ws [32]).length <= ws.length * (B + 1) := by
 cases ws with
 | nil => simp [Lib.join]
 | cons w ws =>
  rw [Lib.join_cons, List.length_append]
  have h1 := zBz 32 ws B fun x hx => h x (List.mem_cons_of_mem _ hx)
  have h2 := h w (List.mem_cons_self ..)
  rw [List.length_cons, Nat.add_mul]; omega
theorem zDf {n : Int} {ts : List (List UInt8)} (h : zAq n ts = true) : (0 <= n /\ n <= 9999) /\ ∀ t ∈ ts, t.length = 5 := by
 simp only [zAq, Bool.and_eq_true, decide_eq_true_eq, List.all_eq_true] at h
 exact ⟨h.1, fun t ht => (zAT (h.2 t ht)).1⟩
theorem zA2 {ts : List (List UInt8)} {k : Nat} {t : List UInt8} (h : t ∈ zAs ts k) : t ∈ ts := List.mem_of_mem_drop (List.mem_of_mem_take h)
theorem zBj (ts : List (List UInt8)) (k : Nat) : (zAs ts k).length <= 5 := by unfold zAs; simp; omega
theorem zAw {n : Int} (h : 0 <= n /\ n <= 9999) : (Lib.itoa n).length <= 4 := (zAN h).2
theorem zDk {s : Int} (h : 0 <= s /\ s <= 100) : (d3 s).length = 3 := by rw [zBD h]; rfl
theorem zDF {n : Int} {m : Nat} (h : 0 <= n /\ n <= 9999) (hm : m <= 9999) : (hdT n m).length <= 100 := by
 have h1 := zAw h
 have h2 := zAw (n := (m : Int)) (by omega)
 have := zAF [wNo, Lib.itoa n, wWd, Lib.itoa (m : Int)] 5 (by simp [wNo, wWd]; omega)
 simp only [hdT, zAA, List.length_append, List.length_cons, List.length_nil] at this ⊢
 omega
theorem zBy {ts : List (List UInt8)} (h : ∀ t ∈ ts, t.length = 5) (k : Nat) : (zAA (zAs ts k)).length <= 31 := by
 have h1 := zAF (zAs ts k) 5 (fun w hw => by have := h w (zA2 hw); omega)
 have h2 := zBj ts k
 simp only [zAA, List.length_append, List.length_cons, List.length_nil]
 omega
theorem zCS {ts : List (List UInt8)} (h : ∀ t ∈ ts, t.length = 5) : ∀ k, (bdC ts k).length <= 31 * k
 | 0 => by simp [bdC]
 | k + 1 => by
  have h1 := zCS h k
  have h2 := zBy h k
  rw [zBi, List.length_append]; omega
theorem zDB {s : Int} (h : 0 <= s /\ s <= 100) : (zAA [zAQ, d3 s]).length <= 20 := by
 have := zAF [zAQ, d3 s] 5 (by simp [zAQ, zDk h])
 simp only [zAA, List.length_append, List.length_cons, List.length_nil] at this ⊢
 omega
theorem zD7 {ts : List (List UInt8)} (h : ts.length <= 8) : nCh ts <= 2 := by unfold nCh; omega
theorem zD6 {n k x : Nat} (h : (List.range n)[k]? = some x) : x = k /\ k < n := by
 have h1 := (zLg h)
 obtain ⟨h2, h3⟩ := h1
 simp at h2 h3
 exact ⟨h3.symm, h2⟩
theorem f127 (n : Int) (ts : List (List UInt8)) (hl : ts.length <= 8) (htl : zAq n ts = true) : ACall Tryz.prog GT 127 [ei n, jD ts] (eS (ptx n ts)) := by
 have ht1 := zDf htl
 have hn4 := zAw ht1.1
 have hm4 := zAw (n := (ts.length : Int)) (by omega)
 have hcb := zAV n ts
 have hwb := zBq ts 0 (by omega) ht1.2
 have hd3 := zDk hcb
 have hH := zDF ht1.1 (m := ts.length) (by omega)
 have hB := zCS ht1.2
 have hL := zBy ht1.2
 have hE := zDB hcb
 have hq1 := zAw (n := ckT n ts / 100) (by omega)
 have hq2 := zAw (n := ckT n ts / 10 % 10) (by omega)
 have hq3 := zAw (n := ckT n ts % 10) (by omega)
 have hnc := zD7 hl
 refine zS Tryz.func127 rfl (by kernel_rfl) rfl ?_
 refine zl (zh (zg rfl rfl (zn rfl rfl) (zo (zf (zl (zh (zg rfl rfl (zi rfl rfl) (zg rfl rfl (zy (av := [_]) rfl ⟨rfl, trivial⟩ (f161 n (by omega))) (zg rfl rfl (zq rfl rfl) (zg rfl rfl (qh rfl rfl rfl Tryz.underlying34) ?_))))))))))
 refine zg rfl rfl (zy (av := [_]) rfl ⟨rfl, trivial⟩ (zEu (j := (ts.length : Int)) (by simp) (by omega))) ?_
 refine zg rfl rfl (qg (size := 1) (rows := [[_], [_], [_], [_]]) rfl Tryz.underlying34 ti9 rfl (by decide) rfl (by decide) ⟨_, _, rfl, (jF rfl), ⟨_, _, rfl, (jF rfl), ⟨_, _, rfl, (jF rfl), ⟨_, _, rfl, (jF rfl), rfl⟩⟩⟩⟩ (by rfl) (by simp [ofV]) rfl (by simp)) ?_
 refine zg rfl rfl (zy (av := [_]) rfl ⟨rfl, trivial⟩ (f160 [wNo, Lib.itoa n, wWd, Lib.itoa (ts.length : Int)] (by simp) (Nat.le_trans (zAF _ 5 (by simp [wNo, wWd]; omega)) (by simp)))) ?_
 refine jb rfl (wJ rfl rfl zv9 rfl rfl) ?_
 refine jb rfl (qG rfl rfl rfl rfl rfl rfl (jF rfl) ty9 (by rfl) (by exact zLb rfl)) ?_
 refine zo (zf (zl (zh (zg rfl rfl (zi rfl rfl) (zg rfl rfl (zn rfl rfl) (zo (zf (zl (zl (zh (zg rfl rfl (zq rfl rfl) ?_)))))))))))
 refine zg rfl rfl (qh rfl rfl rfl Tryz.underlying34) (zg rfl rfl (zi rfl rfl) (zo (zf (zB ?_))))
 refine qy (ι := { k : Nat // k <= ts.length }) (fun k => ⟨Tryz.f127.ntmps, frL [(1, .pub (jD ts)), (5, .pp 0 1 0 0), (6, I (n + wts 0 (ts.take k.1))), (19, .pub (jD ts)), (20, I (ts.length : Int)), (21, I (k.1 : Int))], [.row [[SL (hdT n ts.length)]]]⟩) (fun k => ts.length - k.1) (⟨0, by omega⟩) ?_ ?_
 ·
  exact zt _ ⟨rfl, rfl, (congrArg I (by simp [wts])), rfl, (congrArg (fun x : Nat => I (x : Int)) (List.length_map _)), rfl, trivial⟩ (rfl)
 ·
  rintro ⟨k, hk⟩
  dsimp only
  refine zl (zh (zg rfl rfl (qi rfl rfl rfl) (zo (zf (zl (zx rfl (fun h0 => ?_) (fun h0 => ?_)))))))
  ·
   have hlt : k < ts.length := by simpa [jD] using h0
   have hk5 := ht1.2 _ (List.getElem_mem hlt)
   have hkb := zBq (ts.take k) 0 (by simp; omega) (fun t h => ht1.2 t (List.mem_of_mem_take h))
   have hkl : (ts.take k).length = k := by simp; omega
   refine zC (zf (zl (zB (zl (zh (zg rfl rfl (zi rfl rfl) (zg rfl rfl (zG rfl rfl rfl yJ (by omega) (zAD hlt) vZ) (zg rfl rfl (zA rfl rfl rfl ty9) (zg rfl rfl (zn rfl rfl) (zg rfl rfl (zn rfl rfl) (zo ?_)))))))))))
   refine zf (zl (zh (zg rfl rfl (zi rfl rfl) (zg rfl rfl (wE rfl rfl Tryz.underlying9) (zg rfl rfl (zi rfl rfl) (zo (zf (zB ?_))))))))
   refine qy (ι := { j : Nat // j <= (ts[k]'hlt).length }) (fun j => ⟨Tryz.f127.ntmps, frL [(1, .pub (jD ts)), (5, .pp 0 1 0 0), (6, I ((n + wts 0 (ts.take k)) + wtk (k : Int) 0 ((ts[k]'hlt).take j.1))), (7, I (k : Int)), (8, SL (ts[k]'hlt)), (19, .pub (jD ts)), (20, I (ts.length : Int)), (21, I (k : Int)), (27, I ((ts[k]'hlt).length : Int)), (28, I (j.1 : Int))], [.row [[SL (hdT n ts.length)]]]⟩) (fun j => (ts[k]'hlt).length - j.1) (⟨0, by omega⟩) ?_ ?_
   ·
    exact zt _ ⟨rfl, rfl, (congrArg I (by simp [wtk])), rfl, rfl, rfl, rfl, rfl, rfl, rfl, trivial⟩ (rfl)
   ·
    rintro ⟨j, hj⟩
    dsimp only
    refine zl (zh (zg rfl rfl (qi rfl rfl rfl) (zo (zf (zl (zx rfl (fun h1 => ?_) (fun h1 => ?_)))))))
    ·
     have hlj : j < (ts[k]'hlt).length := by simpa using h1
     have hjb := zBO (i := (k : Int)) (by omega) ((ts[k]'hlt).take j) 0 (by simp; omega)
     have hjl : ((ts[k]'hlt).take j).length = j := by simp; omega
     have hbb : 0 <= (((ts[k]'hlt)[j]'hlj).toNat : Int) /\ (((ts[k]'hlt)[j]'hlj).toNat : Int) <= 255 := ⟨by omega, by have := ((ts[k]'hlt)[j]'hlj).toNat_lt; omega⟩
     have hm1 := zwa hbb (show 0 <= (j : Int) + 1 /\ (j : Int) + 1 <= 5 by omega)
     have hm2 := zwa hm1 (show 0 <= (k : Int) + 1 /\ (k : Int) + 1 <= 8 by omega)
     refine zC (zf (zl (zB (zl (zh (zg rfl rfl (zi rfl rfl) (zg rfl rfl (zn rfl rfl) (zo (zf (zh (zg rfl rfl (zi rfl rfl) ?_)))))))))))
     refine zg rfl rfl (zi rfl rfl) (zg rfl rfl (zi rfl rfl) ?_)
     refine zg rfl rfl (wC rfl rfl rfl Tryz.underlying9 (by omega) (by rw [Int.toNat_natCast]; exact List.getElem?_eq_getElem hlj)) ?_
     refine zg rfl rfl (y8 rfl rfl Tryz.underlying5 Tryz.underlying3 (zeq (by omega))) (zg rfl rfl (zi rfl rfl) (zg rfl rfl (zV rfl rfl rfl ⟨(by omega), (by omega)⟩) ?_))
     refine zg rfl rfl (zcY rfl rfl rfl ⟨by omega, by omega⟩) ?_
     refine zg rfl rfl (zi rfl rfl) (zg rfl rfl (zV rfl rfl rfl ⟨(by omega), (by omega)⟩) ?_)
     refine zg rfl rfl (zcY rfl rfl rfl ⟨by omega, by omega⟩) ?_
     refine zg rfl rfl (zV rfl rfl rfl ⟨(by omega), (by omega)⟩) (zg rfl rfl (zn rfl rfl) (zo (zD (zf (zh (zg rfl rfl (zV rfl rfl rfl ⟨(by omega), (by omega)⟩) (zg rfl rfl (zi rfl rfl) (zo ?_))))))))
     exact ⟨⟨j + 1, by omega⟩, by dsimp only; omega, zt _ ⟨rfl, rfl, (congrArg I (by rw [zCd hlj]; omega)), rfl, rfl, rfl, rfl, rfl, rfl, rfl, trivial⟩ (rfl)⟩
    ·
     have hgj : (ts[k]'hlt).length <= j := by simpa using h1
     have hj2 : (ts[k]'hlt).take j = ts[k]'hlt := List.take_of_length_le hgj
     refine qp (zL (zL (qw (zD (zf (zh (zg rfl rfl (zV rfl rfl rfl ⟨(by omega), (by omega)⟩) (zg rfl rfl (zi rfl rfl) (zo ?_)))))))))
     exact ⟨⟨k + 1, by omega⟩, by dsimp only; omega, zt _ ⟨rfl, rfl, (congrArg I (by rw [zBd hlt, hj2]; omega)), rfl, rfl, rfl, trivial⟩ (rfl)⟩
  ·
   have hge : ts.length <= k := by simpa [jD] using h0
   have hk2 : ts.take k = ts := List.take_of_length_le hge
   refine qp (zL (zL (qw (zf (zl (zl ?_))))))
   refine qx (zt (mem' := [.row [[SL (hdT n ts.length ++ bdC ts 0)]]]) [(1, .pub (jD ts)), (5, .pp 0 1 0 0), (6, I (n + wts 0 ts))] ?_ ?_) ?_
   ·
    exact ⟨rfl, rfl, (congrArg I (by rw [hk2])), trivial⟩
   ·
    exact ((by simp [bdC]))
   refine zh (zg rfl rfl (zq rfl rfl) (zg rfl rfl (zy (av := [_, _]) rfl ⟨rfl, rfl, trivial⟩ (f162 ts)) (zo (zf (zB ?_)))))
   refine zfU (List.range (nCh ts)) (fun (c : Nat) => [jD (zAs ts c)]) [5, 6] (fun k => True) (fun k => [.row [[SL (hdT n ts.length ++ bdC ts k)]]]) (trivial) rfl (zEw ts (by omega)) rfl (fun _ => rfl) rfl rfl ?_ ?_
   ·
    intro k c gh lp hd1 hd2 hq hV
    have hc := zD6 hq
    have hB1 := hB k
    have hL1 := hL c
    refine zh (zg rfl rfl (zW rfl rfl) (zo ?_))
    refine ⟨rfl, rfl, ?_⟩
    refine zB ?_
    refine wR (fun _ => True) (fun k => match k with | 4 => .writes | _ => .here) mixed (by kernel_rfl) rfl (by kernel_rfl) trivial ?_
    refine zX rfl rfl (zK rfl rfl rfl rfl rfl rfl ty9) (zX rfl rfl (zq rfl rfl) ?_)
    refine zX rfl rfl (zy (av := [_]) rfl ⟨rfl, trivial⟩ (f160 (zAs ts c) (by have := zBj ts c; omega) (Nat.le_trans (zAF _ 5 (fun w hw => by have := ht1.2 w (zA2 hw); omega)) (by have := zBj ts c; omega)))) ?_
    refine zX rfl rfl (zcI rfl rfl rfl (by first | omega | (simp; omega))) ?_
    refine zaw rfl rfl (jk rfl rfl rfl rfl rfl rfl (jF rfl) ty9 (by rfl) (by rfl)) trivial ?_
    refine wQ (zD ?_)
    exact ⟨rfl, trivial, zt (mem' := [.row [[SL (hdT n ts.length ++ bdC ts (k + 1))]]]) [] trivial (by rw [zBi, ← hc.1, ← List.append_assoc]; rfl)⟩
   ·
    intro hVn
    refine zD (zf (zl (zh (zg rfl rfl (zi rfl rfl) (zg rfl rfl (yA rfl rfl rfl ⟨(by omega), (by omega)⟩) (zg rfl rfl (zn rfl rfl) (zo (zf (zl ?_)))))))))
    have hB2 := hB (nCh ts)
    refine qx (zt (mem' := [.row [[SL (hdT n ts.length ++ bdC ts (nCh ts))]]]) [(5, .pp 0 1 0 0), (6, I (ckT n ts))] ?_ ?_) ?_
    ·
     exact ⟨rfl, rfl, trivial⟩
    ·
     exact ((by simp))
    refine qY mixed (by kernel_rfl) rfl ?_
    refine zH rfl (zK rfl rfl rfl rfl rfl rfl ty9) (zH rfl (zi rfl rfl) (zH rfl (zcj rfl rfl rfl ⟨(by omega), (by omega), (by omega)⟩) (zH rfl (zy (av := [_]) rfl ⟨rfl, trivial⟩ (f161 (ckT n ts / 100) (by omega))) (zH rfl (zi rfl rfl) (zH rfl (zcj rfl rfl rfl ⟨(by omega), (by omega), (by omega)⟩) (zH rfl (yA rfl rfl rfl ⟨(by omega), (by omega)⟩) (zH rfl (zy (av := [_]) rfl ⟨rfl, trivial⟩ (f161 (ckT n ts / 10 % 10) (by omega))) ?_)))))))
    refine zH rfl (zcI rfl rfl rfl (by first | omega | (simp; omega))) ?_
    refine zH rfl (zi rfl rfl) (zH rfl (yA rfl rfl rfl ⟨(by omega), (by omega)⟩) (zH rfl (zy (av := [_]) rfl ⟨rfl, trivial⟩ (f161 (ckT n ts % 10) (by omega))) ?_))
    refine zH rfl (zcI rfl rfl rfl (by first | omega | (simp; omega))) ?_
    refine zH rfl (qg (size := 1) (rows := [[_], [_]]) rfl Tryz.underlying34 ti9 rfl (by decide) rfl (by decide) ⟨_, _, rfl, (jF rfl), ⟨_, _, rfl, (jF rfl), rfl⟩⟩ (by rfl) (by simp [ofV]) rfl (by simp)) ?_
    refine zH rfl (zy (av := [_]) rfl ⟨rfl, trivial⟩ (f160 [zAQ, d3 (ckT n ts)] (by simp) (Nat.le_trans (zAF _ 5 (by simp [zAQ, hd3])) (by simp)))) ?_
    refine zH rfl (zcI rfl rfl rfl (by first | omega | (simp; omega))) ?_
    refine zH rfl (zn rfl rfl) (jw (zf (zP ?_)))
    exact ⟨.inr rfl, AVle.of (by rfl)⟩
theorem zEt (n : Int) (ts : List (List UInt8)) (hl : ts.length <= 1000) {e : Int} (h : zAI n ts = e) : ACall Tryz.prog G 126 [ei n, jD ts] (ei e) := h ▸ f126 n ts hl
theorem zDM (n : Int) (ts : List (List UInt8)) (hl : ts.length <= 1000) (hb : zAI n ts ≠ 0) : ACall Tryz.prog GT 74 [ei n, jD ts] (.tup [eS [], ei (zAI n ts)]) := by
 refine zS Tryz.func74 rfl (by kernel_rfl) rfl ?_
 refine zl (zh (zg rfl rfl (zn rfl rfl) (zg rfl rfl (zn rfl rfl) (zo (zf (zl (zl (zh (zg rfl rfl (zi rfl rfl) (zg rfl rfl (zq rfl rfl) (zg rfl rfl (zy (av := [_, _]) rfl ⟨rfl, rfl, trivial⟩ (f126 n ts hl)) ?_)))))))))))
 refine zg rfl rfl (zn rfl rfl) (zo (zf (zl (zh (zg rfl rfl (zi rfl rfl) (zg rfl rfl (vg rfl rfl rfl) (zo (zf (zx rfl (fun h0 => ?_) (fun h0 => ?_))))))))))
 ·
  refine zl (zh (zg rfl rfl (zi rfl rfl) (zg rfl rfl (zn rfl rfl) (zg rfl rfl (zn rfl rfl) (zo (zf (zP (zQ ?_))))))))
  exact ⟨.inr rfl, ⟨_, rfl, ⟨_, _, rfl, AVle.refl _, ⟨_, _, rfl, AVle.refl _, rfl⟩⟩⟩⟩
 ·
  exfalso; simp at h0; exact hb h0
theorem zEa (n : Int) (ts : List (List UInt8)) (hl : ts.length <= 8) (htl : zAq n ts = true) : ACall Tryz.prog GT 74 [ei n, jD ts] (.tup [eS (ptx n ts), ei 0]) := by
 refine zS Tryz.func74 rfl (by kernel_rfl) rfl ?_
 refine zl (zh (zg rfl rfl (zn rfl rfl) (zg rfl rfl (zn rfl rfl) (zo (zf (zl (zl (zh (zg rfl rfl (zi rfl rfl) (zg rfl rfl (zq rfl rfl) ?_))))))))))
 refine zg rfl rfl (zy (av := [_, _]) rfl ⟨rfl, rfl, trivial⟩ (zEt n ts (by omega) (e := 0) (by rw [zAI, if_neg (by omega), htl]; rfl))) ?_
 refine zg rfl rfl (zn rfl rfl) (zo (zf (zl (zh (zg rfl rfl (zi rfl rfl) (zg rfl rfl (vg rfl rfl rfl) (zo (zf (zx rfl (fun h0 => ?_) (fun h0 => ?_))))))))))
 ·
  exfalso; simp at h0
 ·
  refine zC (zf (zl (zh (zg rfl rfl (zi rfl rfl) (zg rfl rfl (zq rfl rfl) (zg rfl rfl (zy (av := [_, _]) rfl ⟨rfl, rfl, trivial⟩ (f127 n ts hl htl)) (zg rfl rfl (zn rfl rfl) (zg rfl rfl (zn rfl rfl) (zo (zf (zP ?_)))))))))))
  exact ⟨.inr rfl, ⟨_, rfl, ⟨_, _, rfl, AVle.refl _, ⟨_, _, rfl, AVle.refl _, rfl⟩⟩⟩⟩
end Go.Av
end
section
namespace Go.Av
open Go.Proofs
set_option maxRecDepth 100000
set_option maxHeartbeats 1000000
variable {G : Glob}
theorem zEv : tyIs Tryz.prog 177 true 1 = true := by kernel_rfl
theorem zEo : (Tryz.prog.info? 177).bind (·.zero) = some (.agg #[.string ⟨#[]⟩]) := by kernel_rfl
theorem zC8 : xn Tryz.prog 177 [(0, 1)] [.string ⟨#[]⟩] := ⟨_, Tryz.underlying177, by kernel_rfl, by kernel_rfl⟩
def okZ : Lib.NumEnd Int -> Bool
 | .ok _ => true
 | _ => false
section
variable {P : Program} {fr : Nat -> EV} {mem : List PO} {o : Oper}
theorem zDI {T U : TypeId} {x : Operand} {ms : Array (String × TypeId)} (ho : o.op = .binOp .neq T x (.const .nilIface) U) (hx : evO fr x = .pub (.v .nilIface)) (ht : P.underlying T = some (.interface ms)) : OpY P G fr mem o (B false) :=
 jI fun ok bs w a _ _ hf => by
  have h1 := xR (hf x (by simp [ho, Op.operands])) hx
  refine ⟨.bool false, ?_, vJ rfl⟩
  have e2 : a.eval (.const .nilIface) = .nilIface := rfl
  have hg : (eqGuard .neq T x (.const .nilIface) .nilIface .nilIface).run P w = .ok () w := by simp [eqGuard]
  have hd : ∀ d : Nat, (Op.equalIn (d + 1) T .nilIface .nilIface).run P w = .ok true w := fun d => by simp [Op.equalIn, run_underlying ht]
  have hb : (binOp .neq T .nilIface .nilIface).run P w = .ok (.bool false) w := by
   simp only [binOp]
   simp [Op.equal, Op.maxDepth, hd 9999]
  simp only [execOp, ho, h1, e2, Sem.run_bind, hg, hb, Result.andThen_ok]; rfl
theorem zCM {T U t : TypeId} {x : Operand} {c : AV} {ms : Array (String × TypeId)} (ho : o.op = .binOp .neq T x (.const .nilIface) U) (hx : evO fr x = .pub (.ifc t c)) (ht : P.underlying T = some (.interface ms)) : OpY P G fr mem o (B true) :=
 jI fun ok bs w a _ _ hf => by
  have h := hf x (by simp [ho, Op.operands])
  rw [hx] at h
  simp only [FitsE, Fits] at h
  obtain ⟨u, e, _⟩ := h
  refine ⟨.bool true, ?_, vJ rfl⟩
  have e2 : a.eval (.const .nilIface) = .nilIface := rfl
  have hg : (eqGuard .neq T x (.const .nilIface) (.iface t u) .nilIface).run P w = .ok () w := by simp [eqGuard]
  have hd : ∀ d : Nat, (Op.equalIn (d + 1) T (.iface t u) .nilIface).run P w = .ok false w := fun d => by simp [Op.equalIn, run_underlying ht]
  have hb : (binOp .neq T (.iface t u) .nilIface).run P w = .ok (.bool true) w := by
   simp only [binOp]
   simp [Op.equal, Op.maxDepth, hd 9999]
  simp only [execOp, ho, e, e2, Sem.run_bind, hg, hb, Result.andThen_ok]; rfl
theorem zD4 {T U : TypeId} {x : Operand} {z : Lib.NumEnd Int} {ms : Array (String × TypeId)} (ho : o.op = .binOp .neq T x (.const .nilIface) U) (hx : evO fr x = .pub (atE z)) (ht : P.underlying T = some (.interface ms)) : OpY P G fr mem o (B (!okZ z)) := by
 cases z with
 | ok v => exact zDI ho hx ht
 | «syntax» => exact zCM ho hx ht
 | range => exact zCM ho hx ht
end
def pvW : AV := .ifc 177 (.agg [.top])
def zCe (s : List UInt8) : List (List UInt8) := zAm 10 s
def hdW (s : List UInt8) : List (List UInt8) := zAm 32 ((zCe s).headD [])
def headW (s : List UInt8) : Bool := decide ((hdW s).length = 4) && decide (3 <= (zCe s).length)
def zDp (s : List UInt8) : List (List UInt8) := ((zCe s).take ((zCe s).length - 2)).drop 1
def zA7 (s : List UInt8) : List (List UInt8) := ((zDp s).map (zAm 32)).flatten
def zAv (s : List UInt8) : Option (Int × List (List UInt8)) :=
 if headW s = true then (match Lib.atoiAll ((hdW s).getD 1 []) with
  | .ok n => if zAI n (zA7 s) = 0 /\ ptx n (zA7 s) = s then some (n, zA7 s) else none
  | _ => none) else none
theorem zCB {s : List UInt8} (h : headW s = false) : zAv s = none := by unfold zAv; rw [h]; rfl
theorem zC0 {s : List UInt8} (h : okZ (Lib.atoiAll ((hdW s).getD 1 [])) = false) : zAv s = none := by
 unfold zAv
 split
 ·
  split
  ·
   rename_i n hn; rw [hn] at h; cases h
  ·
   rfl
 ·
  rfl
theorem zDa {s : List UInt8} {n : Int} (hn : Lib.atoiAll ((hdW s).getD 1 []) = .ok n) (h : ¬ (zAI n (zA7 s) = 0 /\ ptx n (zA7 s) = s)) : zAv s = none := by
 unfold zAv
 rw [hn]
 split
 ·
  simp only [if_neg h]
 ·
  rfl
theorem zB2 {s : List UInt8} {n : Int} (h1 : headW s = true) (hn : Lib.atoiAll ((hdW s).getD 1 []) = .ok n) (h : zAI n (zA7 s) = 0 /\ ptx n (zA7 s) = s) : zAv s = some (n, zA7 s) := by
 unfold zAv
 rw [hn, if_pos h1]
 simp only [if_pos h]
theorem zDm {z : Lib.NumEnd Int} (h : okZ z = true) : ∃ n, z = .ok n := by
 cases z with
 | ok n => exact ⟨n, rfl⟩
 | «syntax» => cases h
 | range => cases h
theorem zDc {n : Int} {ts : List (List UInt8)} (h : zAI n ts = 0) : ts.length <= 8 /\ zAq n ts = true := by
 unfold zAI at h
 by_cases h1 : 8 < ts.length
 ·
  rw [if_pos h1] at h; cases h
 ·
  rw [if_neg h1] at h
  by_cases h2 : zAq n ts = true
  ·
   exact ⟨by omega, h2⟩
  ·
   rw [if_neg h2] at h; cases h
def smL : List (List UInt8) -> Nat
 | [] => 0
 | l :: ls => l.length + 1 + smL ls
theorem zBf : ∀ (l : List (List UInt8)) (k : Nat), smL (l.take k) <= smL l
 | [], k => by simp [smL]
 | x :: l, 0 => by simp [smL]
 | x :: l, k + 1 => by have := zBf l k; simp only [List.take_succ_cons, smL]; omega
theorem zCc : ∀ (l : List (List UInt8)) (k : Nat), smL (l.drop k) <= smL l
 | [], k => by simp [smL]
 | x :: l, 0 => by simp
 | x :: l, k + 1 => by have := zCc l k; simp only [List.drop_succ_cons, smL]; omega
theorem zA8 {l : List (List UInt8)} {x : List UInt8} (h : x ∈ l) : x.length + 1 <= smL l := by
 induction l with
 | nil => cases h
 | cons y l ih =>
  rcases List.mem_cons.1 h with rfl | h
  ·
   simp only [smL]; omega
  ·
   have := ih h; simp only [smL]; omega
theorem zAM : ∀ (l : List (List UInt8)), l.length <= smL l
 | [] => by simp
 | x :: l => by have := zAM l; simp only [smL, List.length_cons]; omega
theorem zAG (c : UInt8) : ∀ (s : List UInt8), smL (zAm c s) = s.length + 1
 | [] => by simp [zAm, smL]
 | x :: xs => by
  have := zAG c xs
  simp only [zAm]
  split
  ·
   simp only [smL, this, List.length_cons, List.length_nil]; omega
  ·
   split
   ·
    rename_i h; exact absurd h (zBC c xs)
   ·
    rename_i h; rw [h] at this; simp only [smL, List.length_cons] at this ⊢; omega
theorem zCA (c : UInt8) (s : List UInt8) : (zAm c s).length <= s.length + 1 := by have := zAM (zAm c s); rw [zAG] at this; exact this
def flK (R : List (List UInt8)) (k : Nat) : List (List UInt8) := ((R.take k).map (zAm 32)).flatten
theorem zBe {R : List (List UInt8)} {k : Nat} (h : k < R.length) : flK R (k + 1) = flK R k ++ zAm 32 R[k] := by
 unfold flK
 rw [List.take_add_one, List.getElem?_eq_getElem h, Option.toList_some, List.map_append, List.flatten_append]; simp
theorem zBZ : ∀ (R : List (List UInt8)), (R.map (zAm 32)).flatten.length <= smL R
 | [] => by simp
 | l :: R => by
  have h1 := zBZ R
  have h2 := zCA 32 l
  simp only [List.map_cons, List.flatten_cons, List.length_append, smL]; omega
theorem zCD {R : List (List UInt8)} (k : Nat) : (flK R k).length <= smL R := Nat.le_trans (zBZ _) (zBf R k)
theorem zDz {R : List (List UInt8)} {k : Nat} (h : k < R.length) : (flK R k).length + (zAm 32 R[k]).length <= smL R := by
 have h1 := zCD (R := R) (k + 1)
 rw [zBe h, List.length_append] at h1; exact h1
def sE (w : List UInt8) : List EV := [EV.pub (eS w)]
theorem zAY {H : List (List UInt8)} {k : Nat} (h : k < H.length) : (H.map fun s => [eS s])[k]? = some [eS (H.getD k [])] := by
 rw [List.getElem?_map, List.getElem?_eq_getElem h, List.getD_eq_getElem?_getD, List.getElem?_eq_getElem h]; rfl
theorem zDi {R : List (List UInt8)} {k : Nat} (h : k < R.length) : (flK R k).map sE ++ ((zAm 32 R[k]).map fun s => [eS s]).map (·.map .pub) = (flK R (k + 1)).map sE := by
 rw [zBe h, List.map_append]; congr 1; rw [List.map_map]; rfl
theorem zDD {R : List (List UInt8)} {k : Nat} (h : k < R.length) : (flK R k).length + (((zAm 32 R[k]).map fun s => [eS s]).map (·.map EV.pub)).length = (flK R (k + 1)).length := by
 rw [zBe h]; simp
theorem f130 (s : List UInt8) (hl : s.length <= 200) : XCall Tryz.prog GE 130 [eS s] (zsx pvW (fun p => .tup [ei p.1, jD p.2]) (zAv s)) := by
 obtain ⟨L0, Ls, hL⟩ : ∃ L0 Ls, zAm 10 s = L0 :: Ls := by
  cases h : zAm 10 s with
  | nil => exact absurd h (zBC 10 s)
  | cons a b => exact ⟨a, b, rfl⟩
 obtain ⟨H, hH⟩ : ∃ H, zAm 32 L0 = H := ⟨_, rfl⟩
 have hsum := zAG 10 s
 rw [hL] at hsum
 have hl0 := zA8 (List.mem_cons_self (a := L0) (l := Ls))
 have sp1 := (f163 s 10 (by omega)).ge
 rw [hL] at sp1
 have sp2 := (f163 L0 32 (by omega)).ge
 rw [hH] at sp2
 have hHs := zAG 32 L0
 rw [hH] at hHs
 have eH : hdW s = H := by unfold hdW zCe; rw [hL]; exact hH
 have eL : zCe s = L0 :: Ls := hL
 have hHd : ∀ k, (H.getD k []).length <= 400 := fun k => by
  rw [List.getD_eq_getElem?_getD]
  cases h : H[k]? with
  | none => simp
  | some p => have := zA8 (List.mem_of_getElem? h); simp only [Option.getD_some]; omega
 obtain ⟨Z, hZ⟩ : ∃ Z, Lib.atoiAll (H.getD 1 []) = Z := ⟨_, rfl⟩
 have sp4 := f164 (H.getD 1 []) (by have := hHd 1; omega)
 rw [hZ] at sp4
 have hLq := zAM (L0 :: Ls)
 have hLl := zAM (L0 :: Ls)
 rw [List.length_cons] at hLl
 refine zDx Tryz.func130 rfl (by kernel_rfl) rfl ?_
 refine zl (zh (zg rfl rfl (zn rfl rfl) (zg rfl rfl (zn rfl rfl) (zo (zf (zl (zh (zg rfl rfl (zi rfl rfl) (zg rfl rfl (zy (av := [_, _]) rfl ⟨rfl, rfl, trivial⟩ sp1) (zg rfl rfl (zW rfl rfl) (zo ?_)))))))))))
 refine zf (zl (zh (zg rfl rfl (zq rfl rfl) (zg rfl rfl (zG rfl rfl rfl yJ (by omega) rfl vZ) (zg rfl rfl (zA rfl rfl rfl ty9) (zg rfl rfl (zy (av := [_, _]) rfl ⟨rfl, rfl, trivial⟩ sp2) (zg rfl rfl (zW rfl rfl) (zo (zf (zl (zl ?_)))))))))))
 refine zh (zg rfl rfl (zq rfl rfl) (zg rfl rfl (zAp rfl rfl Tryz.underlying34) (zg rfl rfl (vg rfl rfl rfl) (zg rfl rfl (zi rfl rfl) (zk rfl rfl rfl (fun hg => zq rfl rfl) (zk rfl rfl rfl (fun hg => zAp rfl (if_pos hg) Tryz.underlying34) (zk rfl rfl rfl (fun hg => qi rfl (if_pos hg) rfl) (zg rfl rfl (qU rfl rfl rfl rfl) (zo (zf (zx rfl (fun h0 => ?_) (fun h0 => ?_))))))))))))
 ·
  have hnone : zAv s = none := zCB (by unfold headW; rw [eH, eL]; simp at h0 ⊢; omega)
  refine zh (zg rfl rfl (zi rfl rfl) ?_)
  refine zg rfl rfl (zb3 (cs := [_]) rfl zC8 rfl ⟨_, _, rfl, (jF rfl), rfl⟩ (by rfl) (by simp [ofV])) ?_
  refine zg rfl rfl (zAC rfl rfl Tryz.underlying177 rfl) ?_
  refine zBp rfl rfl rfl (fun u => ?_)
  refine zAZ ?_
  exact zBc hnone AVle.ifc1
 ·
  have hhd : headW s = true := by unfold headW; rw [eH, eL]; simp at h0 ⊢; omega
  have hh2 := hhd
  unfold headW at hh2
  rw [eH, eL] at hh2
  simp only [Bool.and_eq_true, decide_eq_true_eq] at hh2
  refine zC (zf (zl (zh (zg rfl rfl (zq rfl rfl) (zg rfl rfl (zG rfl rfl rfl yJ (by omega) (show _ = some [eS (H.getD 1 [])] from zAY (by omega)) vZ) (zg rfl rfl (zA rfl rfl rfl ty9) (zg rfl rfl (zy (av := [_]) rfl ⟨rfl, trivial⟩ sp4) (zg rfl rfl (zq rfl rfl) (zg rfl rfl (zN rfl rfl rfl) (zg rfl rfl (zN rfl rfl rfl) (zg rfl rfl (zW rfl rfl) ?_)))))))))))
  refine zg rfl rfl (zW rfl rfl) (zo (zf (zl (zl (zh (zg rfl rfl (zq rfl rfl) (zg rfl rfl (zD4 rfl rfl Tryz.underlying214) (zo (zf (zx rfl (fun h1 => ?_) (fun h1 => ?_)))))))))))
  ·
   have hnone : zAv s = none := zC0 (by rw [eH, hZ]; simpa using h1)
   refine zh (zg rfl rfl (zq rfl rfl) (zg rfl rfl (zG rfl rfl rfl yJ (by omega) (show _ = some [eS (H.getD 1 [])] from zAY (by omega)) vZ) (zg rfl rfl (zA rfl rfl rfl ty9) ?_)))
   refine zg rfl rfl (zb3 (cs := [_]) rfl zC8 rfl ⟨_, _, rfl, (jF rfl), rfl⟩ (by rfl) (by simp [ofV])) ?_
   refine zg rfl rfl (zAC rfl rfl Tryz.underlying177 rfl) ?_
   refine zBp rfl rfl rfl (fun u => ?_)
   refine zAZ ?_
   exact zBc hnone AVle.ifc1
  ·
   have hz : okZ Z = true := by simpa using h1
   refine Exists.elim (zDm hz) (fun n hn => ?_)
   subst hn
   refine zC (zf (zl (zh (zg rfl rfl (zn rfl rfl) (zo (zf (zl (zl ?_))))))))
   refine Exists.elim (show ∃ R, ((L0 :: Ls).take ((((L0 :: Ls).length : Int) - 2)).toNat).drop 1 = R from ⟨_, rfl⟩) (fun R hR => ?_)
   have hR2 : R = zDp s := by unfold zDp; rw [eL, ← hR]; congr 2; omega
   have hRs : smL R <= 201 := by have h1 := zCc ((L0 :: Ls).take ((((L0 :: Ls).length : Int) - 2)).toNat) 1; have h2 := zBf (L0 :: Ls) ((((L0 :: Ls).length : Int) - 2)).toNat; rw [hR] at h1; omega
   have hRn := zAM R
   refine zh (zg rfl rfl (zq rfl rfl) (zg rfl rfl (zq rfl rfl) (zg rfl rfl (zAp rfl rfl Tryz.underlying34) (zg rfl rfl (ze5 rfl rfl rfl ⟨(by omega), (by omega)⟩) ?_))))
   refine zg rfl rfl (zhU rfl rfl rfl rfl yJ vZ (by omega) (by omega) (by rw [List.length_map]; omega)) ?_
   refine zg rfl rfl (qh rfl rfl rfl Tryz.underlying34) (zg rfl rfl (zi rfl rfl) (zo (zf (zB ?_))))
   refine qx (kG 8 rfl) ?_
   refine qy (ι := { k : Nat // k <= R.length }) (fun k => ⟨Tryz.f130.ntmps, frL [(0, SL s), (6, I n), (8, .psl 0 (flK R k.1).length), (46, .pub (jD R)), (47, I (R.length : Int)), (48, I (k.1 : Int))], [.row ((flK R k.1).map sE)]⟩) (fun k => R.length - k.1) (⟨0, by omega⟩) ?_ ?_
   ·
    exact zt _ ⟨rfl, rfl, rfl, (by show EV.pub _ = _; rw [← hR]; simp [jD, List.map_take, List.map_drop]), (by show I _ = I _; rw [← hR]; simp), rfl, trivial⟩ (rfl)
   ·
    rintro ⟨k, hk⟩
    dsimp only
    refine zl (zh (zg rfl rfl (qi rfl rfl rfl) (zo (zf (zl (zx rfl (fun h2 => ?_) (fun h2 => ?_)))))))
    ·
     have hlt : k < R.length := by simpa using h2
     have sp3 := (f163 R[k] 32 (by have := zA8 (List.getElem_mem hlt); omega)).ge
     have hfl := zDz hlt
     refine zC (zf (zl (zB (zl (zh (zg rfl rfl (zG rfl rfl rfl yJ (by omega) (zAD hlt) vZ) (zg rfl rfl (zA rfl rfl rfl ty9) (zg rfl rfl (zn rfl rfl) (zo (zf (zh ?_)))))))))))
     refine zg rfl rfl (zI rfl rfl) (zg rfl rfl (zi rfl rfl) (zg rfl rfl (zy (av := [_, _]) rfl ⟨rfl, rfl, trivial⟩ sp3) ?_))
     refine jb rfl (vS rfl rfl rfl rfl (by simp) rfl zrL (by intro r hr; obtain ⟨n, _, rfl⟩ := List.mem_map.1 hr; rfl) (by simp) (by simp; omega) (by unfold maxLen; simp; omega)) ?_
     refine zg rfl rfl (qo rfl rfl) (zo (zD (zf (zh (zg rfl rfl (zV rfl rfl rfl ⟨(by omega), (by omega)⟩) (zg rfl rfl (zi rfl rfl) (zo ?_)))))))
     exact ⟨⟨k + 1, by omega⟩, by dsimp only; omega, zt _ ⟨rfl, rfl, (congrArg (EV.psl 0) (zDD hlt)), rfl, rfl, rfl, trivial⟩ (congrArg (fun z => [PO.row z]) (zDi hlt))⟩
    ·
     have hge : R.length <= k := by simpa using h2
     have hk2 : k = R.length := by omega
     subst hk2
     have hft : flK R R.length = zA7 s := by unfold flK zA7; rw [List.take_length, hR2]
     refine qp (zL (zL (qw (zf (zl (zl ?_))))))
     refine qx (zcT (k := 0) (m := (flK R R.length).length) (rows := (flK R R.length).map fun s => [eS s]) [8] (by simp [Function.comp_def, sE]) (by simp) (by intro d hd; simp at hd; subst hd; rfl)) ?_
     refine zh (zg rfl rfl (zi rfl rfl) (zg rfl rfl (zq rfl rfl) ?_))
     refine zg rfl rfl (zy (av := [_, _]) rfl ⟨rfl, rfl, trivial⟩ (f126 n (flK R R.length) (by have := zCD (R := R) R.length; omega))) ?_
     refine zg rfl rfl (vg rfl rfl rfl) (zg rfl rfl (zi rfl rfl) (zk rfl rfl rfl (fun hg => zi rfl rfl) (zk rfl rfl rfl (fun hg => zq rfl rfl) ?_)))
     refine zk rfl rfl rfl (fun hg => zy (av := [_, _]) rfl ⟨((if_pos hg)), ((if_pos hg)), trivial⟩ (f127 n (flK R R.length) (zDc (by simpa using hg)).1 (zDc (by simpa using hg)).2).ge) ?_
     refine zk rfl rfl rfl (fun hg => zi rfl rfl) (zk rfl rfl rfl (fun hg => zue rfl (if_pos hg) (if_pos hg)) (zg rfl rfl (qU rfl rfl rfl rfl) (zo (zf (zx rfl (fun h3 => ?_) (fun h3 => ?_))))))
     ·
      have hnone : zAv s = none := zDa (by rw [eH]; exact hZ) (by rw [← hft]; intro hc; simp [hc.1, hc.2] at h3)
      refine zh (zg rfl rfl (zi rfl rfl) ?_)
      refine zg rfl rfl (zb3 (cs := [_]) rfl zC8 rfl ⟨_, _, rfl, (jF rfl), rfl⟩ (by rfl) (by simp [ofV])) ?_
      refine zg rfl rfl (zAC rfl rfl Tryz.underlying177 rfl) ?_
      refine zBp rfl rfl rfl (fun u => ?_)
      refine zAZ ?_
      exact zBc hnone AVle.ifc1
     ·
      have hsome : zAv s = some (n, flK R R.length) := by
       rw [hft]
       refine zB2 hhd (by rw [eH]; exact hZ) ?_
       rw [← hft]
       simp at h3
       exact h3
      refine zC (zf (zl (zh (zg rfl rfl (zi rfl rfl) (zg rfl rfl (zq rfl rfl) (zg rfl rfl (zn rfl rfl) (zg rfl rfl (zW rfl rfl) (zo (zf (zP ?_))))))))))
      exact zDr (y := (n, flK R R.length)) hsome (.inr rfl) (⟨_, rfl, ⟨_, _, rfl, (by exact AVle.refl _), ⟨_, _, rfl, (by exact AVle.refl _), rfl⟩⟩⟩)
end Go.Av
end
section
namespace Go.Av
open Go.Proofs
set_option maxRecDepth 100000
set_option maxHeartbeats 1000000
variable {G : Glob}
theorem zC4 : tyIs Tryz.prog 31 false 1 = true := by kernel_rfl
theorem zEh : (Tryz.prog.info? 34).bind (·.zero) = some (.slice none 0 0) := by kernel_rfl
theorem zD9 : (Tryz.prog.info? 31).bind (·.zero) = some (.int .i64 0) := by kernel_rfl
theorem zCY (mem : List PO) : zCV Tryz.prog G 129 [.pp 0 1 0 0, .pp 1 1 0 0, .pp 2 1 0 0] none mem mem := by
 refine zCF Tryz.func129 rfl (by kernel_rfl) rfl rfl rfl rfl rfl rfl (fun gh => ?_)
 refine zB (zl (zh (zg rfl rfl (zEe rfl rfl Tryz.underlying20) (zo (zf (zx rfl (fun h0 => ?_) (fun h0 => ?_)))))))
 ·
  refine zh (zg rfl rfl (zn rfl rfl) (zo (zD ?_)))
  exact ⟨.inl rfl, rfl, rfl⟩
 ·
  exfalso; simp at h0
theorem zCW : zCV Tryz.prog G 129 [.pp 0 1 0 0, .pp 1 1 0 0, .pp 2 1 0 0] (some pvW) [.row [[I 0]], .row [[.pub (.v (.slice none 0 0))]], .row [[I 0]]] [.row [[I 0]], .row [[.pub (.v (.slice none 0 0))]], .row [[I 4]]] := by
 refine zCF Tryz.func129 rfl (by kernel_rfl) rfl rfl rfl rfl rfl rfl (fun gh => ?_)
 refine zB (zl (zh (zg rfl rfl (zEi rfl rfl Tryz.underlying20) (zo (zf (zx rfl (fun h0 => ?_) (fun h0 => ?_)))))))
 ·
  exfalso; simp at h0
 ·
  refine zl (zh (zg rfl rfl (zCU rfl rfl Tryz.underlying177 rfl) (zg rfl rfl (zN rfl rfl rfl) (zg rfl rfl (zN rfl rfl rfl) (zo (zf (zx rfl (fun h1 => ?_) (fun h1 => ?_))))))))
  ·
   refine zl (zh ?_)
   refine vI  rfl rfl rfl rfl rfl rfl rfl zEo zEv rfl (by rfl) (zY rfl) rfl ?_
   refine zo (zf (zh ?_))
   refine jb rfl (qG rfl rfl rfl rfl rfl rfl (jF rfl) ty3 (by rfl) (by exact zLb rfl)) ?_
   refine jb rfl (qG rfl rfl rfl rfl rfl rfl (jF rfl) zfC (by rfl) (by exact zLb rfl)) ?_
   refine jb rfl (qG rfl rfl rfl rfl rfl rfl (jF rfl) zC4 (by rfl) (by exact zLb rfl)) ?_
   refine zo (zD ?_)
   exact ⟨.inl rfl, rfl, rfl⟩
  ·
   exfalso; simp at h1
theorem zDo (s : List UInt8) (hl : 200 < s.length) : ACall Tryz.prog GE 76 [eS s] (.tup [ei 0, jD [], ei 3]) := by
 refine zA4 Tryz.func76 rfl (by kernel_rfl) rfl ?_
 refine zl (zh (jb rfl (wJ rfl rfl zv3 rfl rfl) (jb rfl (wJ rfl rfl zEh rfl rfl) (jb rfl (wJ rfl rfl zD9 rfl rfl) (zo (zf (zl (zl (zh (zg rfl rfl (zi rfl rfl) (zg rfl rfl (wE rfl rfl Tryz.underlying9) ?_)))))))))))
 refine zg rfl rfl (qR rfl rfl rfl) (zo (zf (zx rfl (fun h0 => ?_) (fun h0 => ?_))))
 ·
  refine zl (zh ?_)
  refine jb rfl (qG rfl rfl rfl rfl rfl rfl (jF rfl) ty3 (by rfl) (by exact zLb rfl)) ?_
  refine jb rfl (qG rfl rfl rfl rfl rfl rfl (jF rfl) zfC (by rfl) (by exact zLb rfl)) ?_
  refine jb rfl (qG rfl rfl rfl rfl rfl rfl (jF rfl) zC4 (by rfl) (by exact zLb rfl)) ?_
  refine zo (zf (zP (zQ ?_)))
  exact .inl ⟨rfl, .inr rfl, ⟨_, rfl, ⟨_, _, rfl, (zAy rfl rfl rfl rfl ty3 rfl (by exact AVle.refl _)), ⟨_, _, rfl, (zAy rfl rfl rfl rfl zfC rfl (by exact AVle.nil)), ⟨_, _, rfl, (zAy rfl rfl rfl rfl zC4 rfl (by exact AVle.refl _)), rfl⟩⟩⟩⟩⟩
 ·
  exfalso; simp at h0; omega
theorem zB8 (s : List UInt8) (hl : s.length <= 200) (hr : zAv s = none) : ACall Tryz.prog GE 76 [eS s] (.tup [ei 0, jD [], ei 4]) := by
 refine zA4 Tryz.func76 rfl (by kernel_rfl) rfl ?_
 refine zl (zh (jb rfl (wJ rfl rfl zv3 rfl rfl) (jb rfl (wJ rfl rfl zEh rfl rfl) (jb rfl (wJ rfl rfl zD9 rfl rfl) (zo (zf (zl (zl (zh (zg rfl rfl (zi rfl rfl) (zg rfl rfl (wE rfl rfl Tryz.underlying9) ?_)))))))))))
 refine zg rfl rfl (qR rfl rfl rfl) (zo (zf (zx rfl (fun h0 => ?_) (fun h0 => ?_))))
 ·
  exfalso; simp at h0; omega
 ·
  refine zC (zf (zl (zh (zg rfl rfl (zjz rfl) ?_))))
  refine zB1 rfl rfl rfl rfl ?_
  refine zo (zf (zl (zh (zg rfl rfl (zi rfl rfl) ?_))))
  refine zD0 (av := [_]) rfl rfl rfl ⟨rfl, trivial⟩ (f130 s (by omega)) (fun hx0 u => ?_) (fun y0 hx0 => ?_)
  ·
   refine zAZ ?_
   exact .inr ⟨8, 129, _, _, _, rfl, rfl, ⟨_, rfl, ⟨_, _, rfl, (zAy rfl rfl rfl rfl ty3 rfl (by exact AVle.refl _)), ⟨_, _, rfl, (zAy rfl rfl rfl rfl zfC rfl (by exact AVle.nil)), ⟨_, _, rfl, (zAy rfl rfl rfl rfl zC4 rfl (by exact AVle.refl _)), rfl⟩⟩⟩⟩, .inr ⟨u, _, rfl, List.mem_cons_self .., zCW⟩⟩
  exfalso; rw [hr] at hx0; cases hx0
theorem zDt (s : List UInt8) (hl : s.length <= 200) {n : Int} {ts : List (List UInt8)} (hr : zAv s = some (n, ts)) : ACall Tryz.prog GE 76 [eS s] (.tup [ei n, jD ts, ei 0]) := by
 refine zA4 Tryz.func76 rfl (by kernel_rfl) rfl ?_
 refine zl (zh (jb rfl (wJ rfl rfl zv3 rfl rfl) (jb rfl (wJ rfl rfl zEh rfl rfl) (jb rfl (wJ rfl rfl zD9 rfl rfl) (zo (zf (zl (zl (zh (zg rfl rfl (zi rfl rfl) (zg rfl rfl (wE rfl rfl Tryz.underlying9) ?_)))))))))))
 refine zg rfl rfl (qR rfl rfl rfl) (zo (zf (zx rfl (fun h0 => ?_) (fun h0 => ?_))))
 ·
  exfalso; simp at h0; omega
 ·
  refine zC (zf (zl (zh (zg rfl rfl (zjz rfl) ?_))))
  refine zB1 rfl rfl rfl rfl ?_
  refine zo (zf (zl (zh (zg rfl rfl (zi rfl rfl) ?_))))
  refine zD0 (av := [_]) rfl rfl rfl ⟨rfl, trivial⟩ (f130 s (by omega)) (fun hx0 u => ?_) (fun y0 hx0 => ?_)
  ·
   exfalso; rw [hr] at hx0; cases hx0
  refine zg rfl rfl (zq rfl rfl) (zg rfl rfl (zN rfl rfl rfl) (zg rfl rfl (zN rfl rfl rfl) ?_))
  refine jb rfl (qG rfl rfl rfl rfl rfl rfl (jF rfl) ty3 (by rfl) (by exact zLb rfl)) ?_
  refine jb rfl (qG rfl rfl rfl rfl rfl rfl (kQ rfl) zfC (by rfl) (by exact zLb rfl)) ?_
  refine zo (zf (zl ?_))
  have hye : y0 = (n, ts) := by rw [hr] at hx0; injection hx0 with hx0; exact hx0.symm
  subst hye
  refine wR (fun m => m[1]? = some (.row [[.pub (jD ts)]])) (fun k => match k with | 1 => .stable | 2 => .writes | 3 => .writes | 4 => .writes | _ => .here) mixed (by kernel_rfl) rfl (by kernel_rfl) rfl ?_
  refine zX rfl rfl (zK rfl rfl rfl rfl rfl rfl ty3) (wo rfl rfl (fun m hm => zK rfl rfl hm rfl rfl rfl zfC) ?_)
  refine zaw rfl rfl (jk rfl rfl rfl rfl rfl rfl (jF rfl) ty3 (by rfl) (by rfl)) rfl ?_
  refine zaw rfl rfl (jk rfl rfl rfl rfl rfl rfl (kQ rfl) zfC (by rfl) (by rfl)) rfl ?_
  refine zaw rfl rfl (jk rfl rfl rfl rfl rfl rfl (jF rfl) zC4 (by rfl) (by rfl)) rfl ?_
  refine wQ (zf (zP ?_))
  exact .inr ⟨8, 129, _, _, _, rfl, rfl, ⟨_, rfl, ⟨_, _, rfl, (zAy rfl rfl rfl rfl ty3 rfl (by exact AVle.refl _)), ⟨_, _, rfl, (zAy rfl rfl rfl rfl zfC rfl (by exact AVle.refl _)), ⟨_, _, rfl, (zAy rfl rfl rfl rfl zC4 rfl (by exact AVle.refl _)), rfl⟩⟩⟩⟩, .inl ⟨.inr rfl, zCY _⟩⟩
end Go.Av
end
