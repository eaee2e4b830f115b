
import Derived.Test.YtaphehlgijlfeaaGreatDoorWiY5
import Derived.Test.YtaphehlgijlfeaaGreatDoorPlatG
set_option linter.unusedVariables false
set_option linter.unusedSimpArgs false
section
namespace Go.Av
open Go.Proofs
set_option maxRecDepth 100000
set_option maxHeartbeats 1000000
variable {G : Glob}
theorem zDv {s : List UInt8} {p : Nat} {y : UInt8} : (s.map ztq).set p (ztq y) = (s.set p y).map ztq := by rw [List.map_set]
theorem zD1 : zau Tryz.prog 48 1 = true := by kernel_rfl
theorem zEC : tyIs Tryz.prog 5 false 1 = true := by kernel_rfl
theorem zEk (n : Int) (ts : List (List UInt8)) (hl : ts.length <= 1000) {e : Int} (h : zAI n ts = e) (hb : e ≠ 0) : ACall Tryz.prog GE 74 [ei n, jD ts] (.tup [eS [], ei e]) := by
 subst h; exact (zDM n ts hl hb).ge
theorem zEq (n : Int) (ts : List (List UInt8)) (hl : ts.length <= 1000) (ht : ∀ t ∈ ts, t.length <= 1000) {b : Bool} (h : zAq n ts = b) : ACall Tryz.prog G 75 [ei n, jD ts] (.v (.bool b)) := h ▸ f75 n ts hl ht
theorem zEj (n : Int) (ts : List (List UInt8)) (hl : ts.length <= 8) (htl : zAq n ts = true) : ACall Tryz.prog GE 74 [ei n, jD ts] (.tup [eS (txt n ts), ei 0]) := by
 rw [← zBP hl]; exact (zEa n ts hl htl).ge
theorem zA1 {l : List (List UInt8)} (h : zjc l = true) : ∀ t ∈ l, t.length <= 1000 := fun t ht => by
 simp only [zjc, Bool.and_eq_true, List.all_eq_true, decide_eq_true_eq] at h
 have := h.2 t ht; omega
theorem zEn (a b : List (List UInt8)) (ha : a.length <= 1000) (h : a = b) : ACall Tryz.prog G 29 [jD a, jD b] (.v (.bool true)) := by
 have := f29 (G := G) a b ha
 rw [decide_eq_true h] at this; exact this
theorem zC6 (hkn : KN GE) (n : Int) (ts : List (List UInt8)) (hb : zjc ts = false) : ACall Tryz.prog GE 18 [ei n, jD ts] (.v (.bool true)) := by
 refine zS Tryz.func18 rfl (by kernel_rfl) rfl ?_
 refine zl (zh (zg rfl rfl (zn rfl rfl) (zo (zf (zl (zl (zh (zg rfl rfl (zq rfl rfl) (zg rfl rfl (zy (av := [_]) rfl ⟨rfl, trivial⟩ (zCx ts hb)) (zg rfl rfl (je rfl rfl) (zo ?_)))))))))))
 refine zf (zx rfl (fun h0 => ?_) (fun h0 => ?_))
 ·
  refine zl (zh (zg rfl rfl (zy (av := []) rfl trivial hkn) (zg rfl rfl (zn rfl rfl) (zo (zf (zP (zQ ?_)))))))
  exact ⟨.inr rfl, AVle.refl _⟩
 ·
  exfalso; simp at h0
theorem zDe (hkn : KN GE) (n : Int) (ts : List (List UInt8)) (hb : zjc ts = true) (hl : 8 < ts.length) : ACall Tryz.prog GE 18 [ei n, jD ts] (.v (.bool true)) := by
 have hbl := zA0 hb
 have hbm := zA1 hb
 refine zS Tryz.func18 rfl (by kernel_rfl) rfl ?_
 refine zl (zh (zg rfl rfl (zn rfl rfl) (zo (zf (zl (zl (zh (zg rfl rfl (zq rfl rfl) (zg rfl rfl (zy (av := [_]) rfl ⟨rfl, trivial⟩ (zCx ts hb)) (zg rfl rfl (je rfl rfl) (zo ?_)))))))))))
 refine zf (zx rfl (fun h0 => ?_) (fun h0 => ?_))
 ·
  exfalso; simp at h0
 ·
  refine zC (zf (zl (zh (zg rfl rfl (zi rfl rfl) (zg rfl rfl (zq rfl rfl) ?_)))))
  refine zg rfl rfl (zy (av := [_, _]) rfl ⟨rfl, rfl, trivial⟩ (zEk n ts (by omega) (e := 3) (by unfold zAI; rw [if_pos hl]) (by decide))) ?_
  refine zg rfl rfl (zq rfl rfl) (zg rfl rfl (zN rfl rfl rfl) (zg rfl rfl (zN rfl rfl rfl) (zg rfl rfl (zn rfl rfl) (zg rfl rfl (zn rfl rfl) (zo (zf (zl (zh (zg rfl rfl (zn rfl rfl) (zo (zf ?_)))))))))))
  refine zl (zl (zh (zg rfl rfl (zq rfl rfl) (zg rfl rfl (zAp rfl rfl Tryz.underlying34) (zg rfl rfl (qR rfl rfl rfl) (zo (zf (zx rfl (fun h1 => ?_) (fun h1 => ?_)))))))))
  ·
   refine zh (zg rfl rfl (zn rfl rfl) (zo (zf (zl (zl (zh (zg rfl rfl (zi rfl rfl) (zg rfl rfl (vg rfl rfl rfl) (zo (zf (zx rfl (fun h3 => ?_) (fun h3 => ?_))))))))))))
   ·
    refine zl (zh (zg rfl rfl (zi rfl rfl) (zg rfl rfl (zi rfl rfl) (zg rfl rfl (qJ rfl rfl rfl) (zg rfl rfl (zi rfl rfl) (zk rfl rfl rfl (fun hg => zi rfl rfl) (zk rfl rfl rfl (fun hg => zof rfl (rfl) rfl) (zg rfl rfl (qI rfl rfl rfl rfl) (zg rfl rfl (zi rfl rfl) (zk rfl rfl rfl (fun hg => zy (av := []) rfl trivial hkn) (zg rfl rfl (qI rfl rfl rfl rfl) ?_)))))))))))
    refine zg rfl rfl (zn rfl rfl) (zo (zf (zP (zQ ?_))))
    exact ⟨.inr rfl, AVle.refl _⟩
   ·
    exfalso; simp at h3
  ·
   exfalso; simp at h1; omega
theorem zDT (hkn : KN GE) (n : Int) (ts : List (List UInt8)) (hb : zjc ts = true) (hl : ts.length <= 8) (ht : zAq n ts = false) : ACall Tryz.prog GE 18 [ei n, jD ts] (.v (.bool true)) := by
 have hbl := zA0 hb
 have hbm := zA1 hb
 refine zS Tryz.func18 rfl (by kernel_rfl) rfl ?_
 refine zl (zh (zg rfl rfl (zn rfl rfl) (zo (zf (zl (zl (zh (zg rfl rfl (zq rfl rfl) (zg rfl rfl (zy (av := [_]) rfl ⟨rfl, trivial⟩ (zCx ts hb)) (zg rfl rfl (je rfl rfl) (zo ?_)))))))))))
 refine zf (zx rfl (fun h0 => ?_) (fun h0 => ?_))
 ·
  exfalso; simp at h0
 ·
  refine zC (zf (zl (zh (zg rfl rfl (zi rfl rfl) (zg rfl rfl (zq rfl rfl) ?_)))))
  refine zg rfl rfl (zy (av := [_, _]) rfl ⟨rfl, rfl, trivial⟩ (zEk n ts (by omega) (e := 2) (by unfold zAI; rw [if_neg (by omega), ht]; rfl) (by decide))) ?_
  refine zg rfl rfl (zq rfl rfl) (zg rfl rfl (zN rfl rfl rfl) (zg rfl rfl (zN rfl rfl rfl) (zg rfl rfl (zn rfl rfl) (zg rfl rfl (zn rfl rfl) (zo (zf (zl (zh (zg rfl rfl (zn rfl rfl) (zo (zf ?_)))))))))))
  refine zl (zl (zh (zg rfl rfl (zq rfl rfl) (zg rfl rfl (zAp rfl rfl Tryz.underlying34) (zg rfl rfl (qR rfl rfl rfl) (zo (zf (zx rfl (fun h1 => ?_) (fun h1 => ?_)))))))))
  ·
   exfalso; simp at h1; omega
  ·
   refine zl (zh (zg rfl rfl (zi rfl rfl) (zg rfl rfl (zq rfl rfl) (zg rfl rfl (zy (av := [_, _]) rfl ⟨rfl, rfl, trivial⟩ (zEq n ts (by omega) hbm ht)) (zg rfl rfl (je rfl rfl) (zo (zf (zx rfl (fun h2 => ?_) (fun h2 => ?_)))))))))
   ·
    refine zh (zg rfl rfl (zn rfl rfl) (zo (zf (zl (zl (zh (zg rfl rfl (zi rfl rfl) (zg rfl rfl (vg rfl rfl rfl) (zo (zf (zx rfl (fun h3 => ?_) (fun h3 => ?_))))))))))))
    ·
     refine zl (zh (zg rfl rfl (zi rfl rfl) (zg rfl rfl (zi rfl rfl) (zg rfl rfl (qJ rfl rfl rfl) (zg rfl rfl (zi rfl rfl) (zk rfl rfl rfl (fun hg => zi rfl rfl) (zk rfl rfl rfl (fun hg => zof rfl (rfl) rfl) (zg rfl rfl (qI rfl rfl rfl rfl) (zg rfl rfl (zi rfl rfl) (zk rfl rfl rfl (fun hg => zy (av := []) rfl trivial hkn) (zg rfl rfl (qI rfl rfl rfl rfl) ?_)))))))))))
     refine zg rfl rfl (zn rfl rfl) (zo (zf (zP (zQ ?_))))
     exact ⟨.inr rfl, AVle.refl _⟩
    ·
     exfalso; simp at h3
   ·
    exfalso; simp at h2
theorem f18_main (hkn : KN GE) (n : Int) (ts : List (List UInt8)) (hb : zjc ts = true) (hl : ts.length <= 8) (ht : zAq n ts = true) : ACall Tryz.prog GE 18 [ei n, jD ts] (.v (.bool true)) := by
 have hbl := zA0 hb
 have hbm := zA1 hb
 refine zS Tryz.func18 rfl (by kernel_rfl) rfl ?_
 refine zl (zh (zg rfl rfl (zn rfl rfl) (zo (zf (zl (zl (zh (zg rfl rfl (zq rfl rfl) (zg rfl rfl (zy (av := [_]) rfl ⟨rfl, trivial⟩ (zCx ts hb)) (zg rfl rfl (je rfl rfl) (zo ?_)))))))))))
 refine zf (zx rfl (fun h0 => ?_) (fun h0 => ?_))
 ·
  exfalso; simp at h0
 ·
  refine zC (zf (zl (zh (zg rfl rfl (zi rfl rfl) (zg rfl rfl (zq rfl rfl) (zg rfl rfl (zy (av := [_, _]) rfl ⟨rfl, rfl, trivial⟩ (zEj n ts hl ht)) (zg rfl rfl (zq rfl rfl) (zg rfl rfl (zN rfl rfl rfl) (zg rfl rfl (zN rfl rfl rfl) (zg rfl rfl (zn rfl rfl) (zg rfl rfl (zn rfl rfl) ?_)))))))))))
  refine zo (zf (zl (zh (zg rfl rfl (zn rfl rfl) (zo (zf (zl (zl (zh (zg rfl rfl (zq rfl rfl) (zg rfl rfl (zAp rfl rfl Tryz.underlying34) ?_)))))))))))
  refine zg rfl rfl (qR rfl rfl rfl) (zo (zf (zx rfl (fun h1 => ?_) (fun h1 => ?_))))
  ·
   exfalso; simp at h1; omega
  ·
   refine zl (zh (zg rfl rfl (zi rfl rfl) (zg rfl rfl (zq rfl rfl) (zg rfl rfl (zy (av := [_, _]) rfl ⟨rfl, rfl, trivial⟩ (zEq n ts (by omega) hbm ht)) (zg rfl rfl (je rfl rfl) (zo (zf (zx rfl (fun h2 => ?_) (fun h2 => ?_)))))))))
   ·
    exfalso; simp at h2
   ·
    refine zC (zf (zl (zl (zh (zg rfl rfl (zi rfl rfl) (zg rfl rfl (vg rfl rfl rfl) (zo (zf (zx rfl (fun h3 => ?_) (fun h3 => ?_))))))))))
    ·
     exfalso; simp at h3
    ·
     refine zC (zf (zl (zh (zg rfl rfl (zi rfl rfl) (zg rfl rfl (zy (av := [_]) rfl ⟨rfl, trivial⟩ (zDt (txt n ts) (zCK ht hl) (zBw hl ht))) (zg rfl rfl (zq rfl rfl) (zg rfl rfl (zN rfl rfl rfl) (zg rfl rfl (zN rfl rfl rfl) (zg rfl rfl (zN rfl rfl rfl) (zg rfl rfl (zn rfl rfl) (zg rfl rfl (zW rfl rfl) ?_)))))))))))
     refine zg rfl rfl (zn rfl rfl) (zo (zf (zl (zh (zg rfl rfl (zi rfl rfl) (zg rfl rfl (qJ rfl rfl rfl) (zg rfl rfl (zi rfl rfl) (zk rfl rfl rfl (fun hg => zi rfl rfl) (zk rfl rfl rfl (fun hg => zi rfl rfl) (zk rfl rfl rfl (fun hg => zq rfl rfl) (zk rfl rfl rfl (fun hg => zy (av := [_, _]) rfl ⟨(rfl), (rfl), trivial⟩ (f77 n ts hl ht)) ?_)))))))))))
     refine zk rfl rfl rfl (fun hg => zof rfl (rfl) (rfl)) (zg rfl rfl (qI rfl rfl rfl rfl) (zg rfl rfl (zi rfl rfl) (zk rfl rfl rfl (fun hg => zi rfl rfl) (zk rfl rfl rfl (fun hg => qJ rfl (if_pos hg) rfl) (zg rfl rfl (qI rfl rfl rfl rfl) (zg rfl rfl (zi rfl rfl) (zk rfl rfl rfl (fun hg => zi rfl rfl) (zk rfl rfl rfl (fun hg => zi rfl rfl) (zk rfl rfl rfl (fun hg => qJ rfl (if_pos hg) (if_pos hg)) (zg rfl rfl (qI rfl rfl rfl rfl) (zg rfl rfl (zi rfl rfl) ?_)))))))))))
     refine zk rfl rfl rfl (fun hg => zq rfl rfl) (zk rfl rfl rfl (fun hg => zq rfl rfl) (zk rfl rfl rfl (fun hg => zy (av := [_, _]) rfl ⟨((if_pos hg)), ((if_pos hg)), trivial⟩ (zEn ts ts (by omega) rfl)) (zg rfl rfl (qI rfl rfl rfl rfl) (zg rfl rfl (zi rfl rfl) (zk rfl rfl rfl (fun hg => zy (av := []) rfl trivial hkn) (zg rfl rfl (qI rfl rfl rfl rfl) (zg rfl rfl (zn rfl rfl) (zo (zf (zP ?_))))))))))
     exact ⟨.inr rfl, AVle.of (by simp)⟩
theorem f18 (hkn : KN GE) (n : Int) (ts : List (List UInt8)) : ACall Tryz.prog GE 18 [ei n, jD ts] (.v (.bool true)) := by
 cases hb : zjc ts with
 | false => exact zC6 hkn n ts hb
 | true =>
  by_cases hl : 8 < ts.length
  ·
   exact zDe hkn n ts hb hl
  ·
   cases ht : zAq n ts with
   | false => exact zDT hkn n ts hb (by omega) ht
   | true => exact f18_main hkn n ts hb (by omega) ht
theorem zDE (hkn : KN GE) (s : List UInt8) (hl : 300 < s.length) : ACall Tryz.prog GE 19 [eS s] (.v (.bool true)) := by
 refine zS Tryz.func19 rfl (by kernel_rfl) rfl ?_
 refine zl (zh (zg rfl rfl (zn rfl rfl) (zo (zf (zl (zl (zh (zg rfl rfl (zi rfl rfl) (zg rfl rfl (wE rfl rfl Tryz.underlying9) (zg rfl rfl (qR rfl rfl rfl) (zo ?_)))))))))))
 refine zf (zx rfl (fun h0 => ?_) (fun h0 => ?_))
 ·
  refine zl (zh (zg rfl rfl (zy (av := []) rfl trivial hkn) (zg rfl rfl (zn rfl rfl) (zo (zf (zP (zQ ?_)))))))
  exact ⟨.inr rfl, AVle.refl _⟩
 ·
  exfalso; simp at h0; omega
theorem zDq (hkn : KN GE) (s : List UInt8) (hl : s.length <= 300) (h2 : 200 < s.length) {a : Int} {b : List (List UInt8)} {c : Bool} (hr : rdR s = (a, b, c)) : ACall Tryz.prog GE 19 [eS s] (.v (.bool true)) := by
 refine zS Tryz.func19 rfl (by kernel_rfl) rfl ?_
 refine zl (zh (zg rfl rfl (zn rfl rfl) (zo (zf (zl (zl (zh (zg rfl rfl (zi rfl rfl) (zg rfl rfl (wE rfl rfl Tryz.underlying9) (zg rfl rfl (qR rfl rfl rfl) (zo ?_)))))))))))
 refine zf (zx rfl (fun h0 => ?_) (fun h0 => ?_))
 ·
  exfalso; simp at h0; omega
 ·
  refine zC (zf (zl (zh (zg rfl rfl (zi rfl rfl) (zg rfl rfl (zy (av := [_]) rfl ⟨rfl, trivial⟩ (zDo s h2)) (zg rfl rfl (zq rfl rfl) (zg rfl rfl (zN rfl rfl rfl) (zg rfl rfl (zN rfl rfl rfl) (zg rfl rfl (zN rfl rfl rfl) (zg rfl rfl (zn rfl rfl) (zg rfl rfl (zW rfl rfl) ?_)))))))))))
  refine zg rfl rfl (zn rfl rfl) (zo (zf (zl (zh (zg rfl rfl (zn rfl rfl) (zo (zf (zl (zh (zg rfl rfl (zi rfl rfl) (zg rfl rfl (zy (av := [_]) rfl ⟨rfl, trivial⟩ (f78 s hl hr)) ?_)))))))))))
  refine zg rfl rfl (zq rfl rfl) (zg rfl rfl (zN rfl rfl rfl) (zg rfl rfl (zN rfl rfl rfl) (zg rfl rfl (zN rfl rfl rfl) (zg rfl rfl (zn rfl rfl) (zg rfl rfl (zW rfl rfl) (zg rfl rfl (zn rfl rfl) (zo (zf (zl (zl (zh ?_)))))))))))
  refine zg rfl rfl (zi rfl rfl) (zg rfl rfl (wE rfl rfl Tryz.underlying9) (zg rfl rfl (qR rfl rfl rfl) (zo (zf (zx rfl (fun h1 => ?_) (fun h1 => ?_))))))
  ·
   refine zh (zg rfl rfl (zn rfl rfl) (zo (zf (zl (zl (zh (zg rfl rfl (zi rfl rfl) (zg rfl rfl (vg rfl rfl rfl) (zo (zf (zx rfl (fun h3 => ?_) (fun h3 => ?_))))))))))))
   ·
    refine zl (zh (zg rfl rfl (zi rfl rfl) (zg rfl rfl (zi rfl rfl) (zg rfl rfl (qJ rfl rfl rfl) (zg rfl rfl (zi rfl rfl) (zk rfl rfl rfl (fun hg => zi rfl rfl) (zk rfl rfl rfl (fun hg => qJ rfl (rfl) rfl) (zg rfl rfl (qI rfl rfl rfl rfl) (zg rfl rfl (zi rfl rfl) (zk rfl rfl rfl (fun hg => zq rfl rfl) (zk rfl rfl rfl (fun hg => qh rfl rfl (rfl) Tryz.underlying34) ?_)))))))))))
    refine zk rfl rfl rfl (fun hg => qJ rfl (rfl) rfl) (zg rfl rfl (qI rfl rfl rfl rfl) (zg rfl rfl (zi rfl rfl) (zk rfl rfl rfl (fun hg => zy (av := []) rfl trivial hkn) (zg rfl rfl (qI rfl rfl rfl rfl) (zg rfl rfl (zn rfl rfl) (zo (zf (zP (zQ ?_)))))))))
    exact ⟨.inr rfl, AVle.refl _⟩
   ·
    exfalso; simp at h3
  ·
   exfalso; simp at h1; omega
theorem zEb (hkn : KN GE) (s : List UInt8) (hl : s.length <= 200) {a : Int} {b : List (List UInt8)} (hr : rdR s = (a, b, false)) : ACall Tryz.prog GE 19 [eS s] (.v (.bool true)) := by
 refine zS Tryz.func19 rfl (by kernel_rfl) rfl ?_
 refine zl (zh (zg rfl rfl (zn rfl rfl) (zo (zf (zl (zl (zh (zg rfl rfl (zi rfl rfl) (zg rfl rfl (wE rfl rfl Tryz.underlying9) (zg rfl rfl (qR rfl rfl rfl) (zo ?_)))))))))))
 refine zf (zx rfl (fun h0 => ?_) (fun h0 => ?_))
 ·
  exfalso; simp at h0; omega
 ·
  refine zC (zf (zl (zh (zg rfl rfl (zi rfl rfl) ?_))))
  refine zg rfl rfl (zy (av := [_]) rfl ⟨rfl, trivial⟩ (zB8 s hl (by rw [zBA hr]; rfl))) ?_
  refine zg rfl rfl (zq rfl rfl) (zg rfl rfl (zN rfl rfl rfl) (zg rfl rfl (zN rfl rfl rfl) (zg rfl rfl (zN rfl rfl rfl) (zg rfl rfl (zn rfl rfl) (zg rfl rfl (zW rfl rfl) (zg rfl rfl (zn rfl rfl) (zo (zf (zl (zh (zg rfl rfl (zn rfl rfl) ?_)))))))))))
  refine zo (zf (zl (zh (zg rfl rfl (zi rfl rfl) (zg rfl rfl (zy (av := [_]) rfl ⟨rfl, trivial⟩ (f78 s (by omega) hr)) (zg rfl rfl (zq rfl rfl) (zg rfl rfl (zN rfl rfl rfl) (zg rfl rfl (zN rfl rfl rfl) (zg rfl rfl (zN rfl rfl rfl) (zg rfl rfl (zn rfl rfl) (zg rfl rfl (zW rfl rfl) ?_)))))))))))
  refine zg rfl rfl (zn rfl rfl) (zo (zf (zl (zl (zh (zg rfl rfl (zi rfl rfl) (zg rfl rfl (wE rfl rfl Tryz.underlying9) (zg rfl rfl (qR rfl rfl rfl) (zo (zf (zx rfl (fun h1 => ?_) (fun h1 => ?_))))))))))))
  ·
   exfalso; simp at h1; omega
  ·
   refine zl (zh (zg rfl rfl (zi rfl rfl) (zg rfl rfl (je rfl rfl) (zo (zf (zx rfl (fun h2 => ?_) (fun h2 => ?_)))))))
   ·
    refine zh (zg rfl rfl (zn rfl rfl) (zo (zf (zl (zl (zh (zg rfl rfl (zi rfl rfl) (zg rfl rfl (vg rfl rfl rfl) (zo (zf (zx rfl (fun h3 => ?_) (fun h3 => ?_))))))))))))
    ·
     refine zl (zh (zg rfl rfl (zi rfl rfl) (zg rfl rfl (zi rfl rfl) (zg rfl rfl (qJ rfl rfl rfl) (zg rfl rfl (zi rfl rfl) (zk rfl rfl rfl (fun hg => zi rfl rfl) (zk rfl rfl rfl (fun hg => qJ rfl (rfl) rfl) (zg rfl rfl (qI rfl rfl rfl rfl) (zg rfl rfl (zi rfl rfl) (zk rfl rfl rfl (fun hg => zq rfl rfl) (zk rfl rfl rfl (fun hg => qh rfl rfl (rfl) Tryz.underlying34) ?_)))))))))))
     refine zk rfl rfl rfl (fun hg => qJ rfl (rfl) rfl) (zg rfl rfl (qI rfl rfl rfl rfl) (zg rfl rfl (zi rfl rfl) (zk rfl rfl rfl (fun hg => zy (av := []) rfl trivial hkn) (zg rfl rfl (qI rfl rfl rfl rfl) (zg rfl rfl (zn rfl rfl) (zo (zf (zP (zQ ?_)))))))))
     exact ⟨.inr rfl, AVle.refl _⟩
    ·
     exfalso; simp at h3
   ·
    exfalso; simp at h2
theorem zDH (hkn : KN GE) (s : List UInt8) (hl : s.length <= 200) {a : Int} {b : List (List UInt8)} (hr : rdR s = (a, b, true)) : ACall Tryz.prog GE 19 [eS s] (.v (.bool true)) := by
 have h8 := zCb hr
 refine zS Tryz.func19 rfl (by kernel_rfl) rfl ?_
 refine zl (zh (zg rfl rfl (zn rfl rfl) (zo (zf (zl (zl (zh (zg rfl rfl (zi rfl rfl) (zg rfl rfl (wE rfl rfl Tryz.underlying9) (zg rfl rfl (qR rfl rfl rfl) (zo ?_)))))))))))
 refine zf (zx rfl (fun h0 => ?_) (fun h0 => ?_))
 ·
  exfalso; simp at h0; omega
 ·
  refine zC (zf (zl (zh (zg rfl rfl (zi rfl rfl) ?_))))
  refine zg rfl rfl (zy (av := [_]) rfl ⟨rfl, trivial⟩ (zDt s hl (by rw [zBA hr]; rfl))) ?_
  refine zg rfl rfl (zq rfl rfl) (zg rfl rfl (zN rfl rfl rfl) (zg rfl rfl (zN rfl rfl rfl) (zg rfl rfl (zN rfl rfl rfl) (zg rfl rfl (zn rfl rfl) (zg rfl rfl (zW rfl rfl) (zg rfl rfl (zn rfl rfl) (zo (zf (zl (zh (zg rfl rfl (zn rfl rfl) ?_)))))))))))
  refine zo (zf (zl (zh (zg rfl rfl (zi rfl rfl) (zg rfl rfl (zy (av := [_]) rfl ⟨rfl, trivial⟩ (f78 s (by omega) hr)) (zg rfl rfl (zq rfl rfl) (zg rfl rfl (zN rfl rfl rfl) (zg rfl rfl (zN rfl rfl rfl) (zg rfl rfl (zN rfl rfl rfl) (zg rfl rfl (zn rfl rfl) (zg rfl rfl (zW rfl rfl) ?_)))))))))))
  refine zg rfl rfl (zn rfl rfl) (zo (zf (zl (zl (zh (zg rfl rfl (zi rfl rfl) (zg rfl rfl (wE rfl rfl Tryz.underlying9) (zg rfl rfl (qR rfl rfl rfl) (zo (zf (zx rfl (fun h1 => ?_) (fun h1 => ?_))))))))))))
  ·
   exfalso; simp at h1; omega
  ·
   refine zl (zh (zg rfl rfl (zi rfl rfl) (zg rfl rfl (je rfl rfl) (zo (zf (zx rfl (fun h2 => ?_) (fun h2 => ?_)))))))
   ·
    exfalso; simp at h2
   ·
    refine zC (zf (zl (zl (zh (zg rfl rfl (zi rfl rfl) (zg rfl rfl (vg rfl rfl rfl) (zo (zf (zx rfl (fun h3 => ?_) (fun h3 => ?_))))))))))
    ·
     exfalso; simp at h3
    ·
     refine zC (zf (zl (zh (zg rfl rfl (zi rfl rfl) (zg rfl rfl (zq rfl rfl) (zg rfl rfl (zy (av := [_, _]) rfl ⟨rfl, rfl, trivial⟩ (zEj a b h8.1 h8.2.1)) (zg rfl rfl (zq rfl rfl) (zg rfl rfl (zN rfl rfl rfl) (zg rfl rfl (zN rfl rfl rfl) (zg rfl rfl (zn rfl rfl) (zg rfl rfl (zn rfl rfl) ?_)))))))))))
     refine zo (zf (zl (zh (zg rfl rfl (zi rfl rfl) (zg rfl rfl (qJ rfl rfl rfl) (zg rfl rfl (zi rfl rfl) (zk rfl rfl rfl (fun hg => zi rfl rfl) (zk rfl rfl rfl (fun hg => zi rfl rfl) (zk rfl rfl rfl (fun hg => qJ rfl (rfl) (rfl)) (zg rfl rfl (qI rfl rfl rfl rfl) (zg rfl rfl (zi rfl rfl) ?_)))))))))))
     refine zk rfl rfl rfl (fun hg => zq rfl rfl) (zk rfl rfl rfl (fun hg => zq rfl rfl) (zk rfl rfl rfl (fun hg => zy (av := [_, _]) rfl ⟨((if_pos hg)), ((if_pos hg)), trivial⟩ (zEn b b (by omega) rfl)) (zg rfl rfl (qI rfl rfl rfl rfl) (zg rfl rfl (zi rfl rfl) (zk rfl rfl rfl (fun hg => zi rfl rfl) (zk rfl rfl rfl (fun hg => qJ rfl (if_pos hg) rfl) (zg rfl rfl (qI rfl rfl rfl rfl) (zg rfl rfl (zi rfl rfl) (zk rfl rfl rfl (fun hg => zi rfl rfl) (zk rfl rfl rfl (fun hg => zi rfl rfl) (zk rfl rfl rfl (fun hg => zof rfl (if_pos hg) (if_pos hg)) ?_)))))))))))
     refine zg rfl rfl (qI rfl rfl rfl rfl) (zg rfl rfl (zi rfl rfl) (zk rfl rfl rfl (fun hg => zy (av := []) rfl trivial hkn) (zg rfl rfl (qI rfl rfl rfl rfl) (zg rfl rfl (zn rfl rfl) (zo (zf (zP ?_)))))))
     exact ⟨.inr rfl, AVle.of (by rw [← h8.2.2]; simp)⟩
theorem f19 (hkn : KN GE) (s : List UInt8) : ACall Tryz.prog GE 19 [eS s] (.v (.bool true)) := by
 by_cases hl : s.length <= 300
 ·
  cases hr : rdR s with
  | mk a p =>
   obtain ⟨b, c⟩ := p
   by_cases h2 : 200 < s.length
   ·
    exact zDq hkn s hl h2 hr
   ·
    cases c with
    | true => exact zDH hkn s (by omega) hr
    | false => exact zEb hkn s (by omega) hr
 ·
  exact zDE hkn s (by omega)
theorem zCZ (hkn : KN GE) (n : Int) (ts : List (List UInt8)) (p d : Int) (hb : zjc ts = false) : ACall Tryz.prog GE 20 [ei n, jD ts, ei p, ei d] (.v (.bool true)) := by
 refine zS Tryz.func20 rfl (by kernel_rfl) rfl ?_
 refine zl (zh (zg rfl rfl (zn rfl rfl) (zo (zf (zl (zl (zh (zg rfl rfl (zq rfl rfl) (zg rfl rfl (zy (av := [_]) rfl ⟨rfl, trivial⟩ (zCx ts hb)) (zg rfl rfl (je rfl rfl) (zg rfl rfl (zi rfl rfl) ?_)))))))))))
 refine zk rfl rfl rfl (fun hg => zq rfl rfl) ?_
 refine zk (x := .pub (.tup [])) rfl rfl rfl (fun hg => absurd hg (by decide)) ?_
 refine zk (x := .pub (.tup [])) rfl rfl rfl (fun hg => absurd hg (by decide)) ?_
 refine zg rfl rfl (zU rfl rfl (fun _ => rfl) (fun h => absurd h (by decide))) ?_
 refine zg rfl rfl (zi rfl rfl) (zk rfl rfl rfl (fun hg => zi rfl rfl) (zk rfl rfl rfl (fun hg => zq rfl rfl) ?_))
 refine zk rfl rfl rfl (fun hg => zy (av := [_, _]) rfl ⟨((if_pos hg)), ((if_pos hg)), trivial⟩ (f75 n ts (by exfalso; simp at hg) (by exfalso; simp at hg))) ?_
 refine zk (x := .pub (.tup [])) rfl rfl rfl (fun hg => absurd hg (by decide)) ?_
 refine zg rfl rfl (zU rfl rfl (fun _ => rfl) (fun h => absurd h (by decide))) ?_
 refine zg rfl rfl (zi rfl rfl) (zk rfl rfl rfl (fun hg => zi rfl rfl) ?_)
 refine zk (x := .pub (.tup [])) rfl rfl rfl (fun hg => absurd hg (by decide)) ?_
 refine zg rfl rfl (zU rfl rfl (fun _ => rfl) (fun h => absurd h (by decide))) ?_
 refine zg rfl rfl (zi rfl rfl) (zk rfl rfl rfl (fun hg => zi rfl rfl) ?_)
 refine zk (x := .pub (.tup [])) rfl rfl rfl (fun hg => absurd hg (by decide)) ?_
 refine zg rfl rfl (zU rfl rfl (fun _ => rfl) (fun h => absurd h (by decide))) ?_
 refine zo (zf (zx rfl (fun h0 => ?_) (fun h0 => ?_)))
 ·
  refine zl (zh (zg rfl rfl (zy (av := []) rfl trivial hkn) (zg rfl rfl (zn rfl rfl) (zo (zf (zP (zQ ?_)))))))
  exact ⟨.inr rfl, AVle.refl _⟩
 ·
  exfalso; simp at h0
theorem zDP (hkn : KN GE) (n : Int) (ts : List (List UInt8)) (p d : Int) (hb : zjc ts = true) (ho : ¬ (ts.length <= 8 /\ zAq n ts = true /\ 32 <= d /\ d <= 126)) : ACall Tryz.prog GE 20 [ei n, jD ts, ei p, ei d] (.v (.bool true)) := by
 have hbl := zA0 hb
 have hbm := zA1 hb
 refine zS Tryz.func20 rfl (by kernel_rfl) rfl ?_
 refine zl (zh (zg rfl rfl (zn rfl rfl) (zo (zf (zl (zl (zh (zg rfl rfl (zq rfl rfl) (zg rfl rfl (zy (av := [_]) rfl ⟨rfl, trivial⟩ (zCx ts hb)) (zg rfl rfl (je rfl rfl) (zg rfl rfl (zi rfl rfl) ?_)))))))))))
 refine zk rfl rfl rfl (fun hg => zq rfl rfl) (zk rfl rfl rfl (fun hg => zAp rfl (rfl) Tryz.underlying34) (zk rfl rfl rfl (fun hg => qR rfl (rfl) rfl) (zg rfl rfl (qU rfl rfl rfl rfl) (zg rfl rfl (zi rfl rfl) (zk rfl rfl rfl (fun hg => zi rfl rfl) (zk rfl rfl rfl (fun hg => zq rfl rfl) (zk rfl rfl rfl (fun hg => zy (av := [_, _]) rfl ⟨((if_pos hg)), ((if_pos hg)), trivial⟩ (f75 n ts (by omega) hbm)) (zk rfl rfl rfl (fun hg => je rfl (if_pos hg)) (zg rfl rfl (qU rfl rfl rfl rfl) (zg rfl rfl (zi rfl rfl) (zk rfl rfl rfl (fun hg => zi rfl rfl) ?_)))))))))))
 refine zk rfl rfl rfl (fun hg => qi rfl (if_pos hg) rfl) (zg rfl rfl (qU rfl rfl rfl rfl) (zg rfl rfl (zi rfl rfl) (zk rfl rfl rfl (fun hg => zi rfl rfl) (zk rfl rfl rfl (fun hg => qR rfl (if_pos hg) rfl) (zg rfl rfl (qU rfl rfl rfl rfl) (zo (zf (zx rfl (fun h0 => ?_) (fun h0 => ?_)))))))))
 ·
  refine zl (zh (zg rfl rfl (zy (av := []) rfl trivial hkn) (zg rfl rfl (zn rfl rfl) (zo (zf (zP (zQ ?_)))))))
  exact ⟨.inr rfl, AVle.refl _⟩
 ·
  exfalso; simp at h0; exact ho ⟨by omega, h0.1.1.2, by omega, by omega⟩
theorem f20_main (hkn : KN GE) (n : Int) (ts : List (List UInt8)) (p d : Int) (hb : zjc ts = true) (hl : ts.length <= 8) (ht : zAq n ts = true) (hd : 32 <= d /\ d <= 126) : ACall Tryz.prog GE 20 [ei n, jD ts, ei p, ei d] (.v (.bool true)) := by
 have hbl := zA0 hb
 have hbm := zA1 hb
 have c74 := zEj n ts hl ht
 have hpl := zCK ht hl
 have hsp := @zDU n ts ht hl
 obtain ⟨s, hs⟩ : ∃ s, txt n ts = s := ⟨_, rfl⟩
 rw [hs] at c74 hpl
 obtain ⟨c, hc⟩ : ∃ c : UInt8, s.getD p.toNat 0 = c := ⟨_, rfl⟩
 have hcb := c.toNat_lt
 obtain ⟨y, hy⟩ : ∃ y : UInt8, (y.toNat : Int) = d := ⟨UInt8.ofNat d.toNat, by rw [UInt8.toNat_ofNat']; omega⟩
 refine zS Tryz.func20 rfl (by kernel_rfl) rfl ?_
 refine zl (zh (zg rfl rfl (zn rfl rfl) (zo (zf (zl (zl (zh (zg rfl rfl (zq rfl rfl) (zg rfl rfl (zy (av := [_]) rfl ⟨rfl, trivial⟩ (zCx ts hb)) (zg rfl rfl (je rfl rfl) (zg rfl rfl (zi rfl rfl) ?_)))))))))))
 refine zk rfl rfl rfl (fun hg => zq rfl rfl) (zk rfl rfl rfl (fun hg => zAp rfl (rfl) Tryz.underlying34) (zk rfl rfl rfl (fun hg => qR rfl (rfl) rfl) (zg rfl rfl (qU rfl rfl rfl rfl) (zg rfl rfl (zi rfl rfl) (zk rfl rfl rfl (fun hg => zi rfl rfl) (zk rfl rfl rfl (fun hg => zq rfl rfl) (zk rfl rfl rfl (fun hg => zy (av := [_, _]) rfl ⟨((if_pos hg)), ((if_pos hg)), trivial⟩ (f75 n ts (by omega) hbm)) (zk rfl rfl rfl (fun hg => je rfl (if_pos hg)) (zg rfl rfl (qU rfl rfl rfl rfl) (zg rfl rfl (zi rfl rfl) (zk rfl rfl rfl (fun hg => zi rfl rfl) ?_)))))))))))
 refine zk rfl rfl rfl (fun hg => qi rfl (if_pos hg) rfl) (zg rfl rfl (qU rfl rfl rfl rfl) (zg rfl rfl (zi rfl rfl) (zk rfl rfl rfl (fun hg => zi rfl rfl) (zk rfl rfl rfl (fun hg => qR rfl (if_pos hg) rfl) (zg rfl rfl (qU rfl rfl rfl rfl) (zo (zf (zx rfl (fun h0 => ?_) (fun h0 => ?_)))))))))
 ·
  exfalso; simp [ht] at h0; omega
 ·
  refine zC (zf (zl (zh (zg rfl rfl (zi rfl rfl) (zg rfl rfl (zq rfl rfl) (zg rfl rfl (zy (av := [_, _]) rfl ⟨rfl, rfl, trivial⟩ c74) (zg rfl rfl (zq rfl rfl) (zg rfl rfl (zN rfl rfl rfl) (zg rfl rfl (zN rfl rfl rfl) (zg rfl rfl (zn rfl rfl) (zg rfl rfl (zn rfl rfl) ?_)))))))))))
  refine zo (zf (zl (zl (zh (zg rfl rfl (zi rfl rfl) (zg rfl rfl (vg rfl rfl rfl) (zo (zf (zx rfl (fun h1 => ?_) (fun h1 => ?_))))))))))
  ·
   exfalso; simp at h1
  ·
   refine zC (zf (zl (zl (zh (zg rfl rfl (zi rfl rfl) (zg rfl rfl (qi rfl rfl rfl) (zg rfl rfl (zi rfl rfl) (zk rfl rfl rfl (fun hg => zi rfl rfl) (zk rfl rfl rfl (fun hg => zi rfl rfl) (zk rfl rfl rfl (fun hg => wE rfl (if_pos hg) Tryz.underlying9) (zk rfl rfl rfl (fun hg => zbe rfl (if_pos hg) (if_pos hg)) ?_)))))))))))
   refine zg rfl rfl (qU rfl rfl rfl rfl) (zg rfl rfl (zi rfl rfl) (zk rfl rfl rfl (fun hg => zi rfl rfl) (zk rfl rfl rfl (fun hg => zi rfl rfl) ?_)))
   refine zk rfl rfl rfl (fun hg => wC rfl (if_pos hg) (if_pos hg) Tryz.underlying9 (by simp at hg; omega) (show s[p.toNat]? = some c from by simp at hg; rw [← hc, List.getD_eq_getElem?_getD, List.getElem?_eq_getElem (show p.toNat < s.length by omega)]; rfl)) ?_
   refine zk rfl rfl rfl (fun hg => qJ rfl (if_pos hg) rfl) (zg rfl rfl (qU rfl rfl rfl rfl) (zg rfl rfl (zi rfl rfl) (zk rfl rfl rfl (fun hg => zi rfl rfl) (zk rfl rfl rfl (fun hg => zi rfl rfl) ?_))))
   refine zk rfl rfl rfl (fun hg => wC rfl (if_pos hg) (if_pos hg) Tryz.underlying9 (by simp at hg; omega) (show s[p.toNat]? = some c from by simp at hg; rw [← hc, List.getD_eq_getElem?_getD, List.getElem?_eq_getElem (show p.toNat < s.length by omega)]; rfl)) ?_
   refine zk rfl rfl rfl (fun hg => y8 rfl (if_pos hg) Tryz.underlying5 Tryz.underlying3 (zeq (by omega))) (zk rfl rfl rfl (fun hg => zi rfl rfl) (zk rfl rfl rfl (fun hg => qJ rfl (if_pos hg) (if_pos hg)) (zg rfl rfl (qU rfl rfl rfl rfl) (zo (zf (zx rfl (fun h2 => ?_) (fun h2 => ?_)))))))
   ·
    refine zl (zh (zg rfl rfl (zy (av := []) rfl trivial hkn) (zg rfl rfl (zn rfl rfl) (zo (zf (zP (zQ ?_)))))))
    exact ⟨.inr rfl, AVle.refl _⟩
   ·
    have hh : 0 <= p /\ p < (s.length : Int) /\ (c.toNat : Int) ≠ d := by simp at h2; omega
    have hpn : p.toNat < s.length := by omega
    have hget : c = s[p.toNat] := by rw [← hc, List.getD_eq_getElem?_getD, List.getElem?_eq_getElem hpn]; rfl
    rw [hget] at hh
    have hne : s[p.toNat] ≠ y := by intro e; rw [e] at hh; omega
    have hnone : zAv (s.set p.toNat y) = none := by subst hs; exact hsp hpn hne
    refine zC (zf (zl (zh (zg rfl rfl (zi rfl rfl) (jb rfl (ztW rfl rfl rfl Tryz.underlying9 Tryz.underlying48 Tryz.underlying5 (by omega) (by omega)) (zg rfl rfl (qo rfl rfl) (zo (zf (zl (zh (zg rfl rfl (zI rfl rfl) ?_)))))))))))
    refine zg rfl rfl (zi rfl rfl) (zg rfl rfl (zi rfl rfl) (zg rfl rfl (y8 rfl rfl Tryz.underlying3 Tryz.underlying5 (wrap_u8 (by omega))) ?_))
    refine zg rfl rfl (qc rfl rfl rfl rfl (by simp) zD1 (by omega) (by omega) (by intro q hq; obtain ⟨b, _, rfl⟩ := List.mem_map.1 hq; rfl)) ?_
    refine jb rfl (qG (r := ztq s[p.toNat]) rfl rfl rfl rfl (by simp) (by simp [hpn]) (jF rfl) zEC (by rfl) (by exact zLb rfl)) ?_
    refine zo (zf (zl (zh (zg rfl rfl (zI rfl rfl) ?_))))
    refine zg rfl rfl (ztJ (k := 0) (l := s.set p.toNat y) rfl rfl (show some (PO.row ((s.map ztq).set p.toNat (putCells (ztq s[p.toNat]) 0 [EV.pub (AV.v (.int .u8 d))]))) = some (PO.row ((s.set p.toNat y).map ztq)) from (by rw [← zDv, ← hy]; rfl)) (by simp) Tryz.underlying48 Tryz.underlying5 Tryz.underlying9) ?_
    refine zg rfl rfl (zy (av := [_]) rfl ⟨rfl, trivial⟩ (zB8 (s.set p.toNat y) (by simpa using hpl) hnone)) ?_
    refine zg rfl rfl (zq rfl rfl) (zg rfl rfl (zN rfl rfl rfl) (zg rfl rfl (zN rfl rfl rfl) (zg rfl rfl (zN rfl rfl rfl) (zg rfl rfl (zn rfl rfl) (zg rfl rfl (zW rfl rfl) (zg rfl rfl (zn rfl rfl) (zo (zf (zl (zh (zg rfl rfl (zi rfl rfl) ?_)))))))))))
    refine zg rfl rfl (qJ rfl rfl rfl) (zg rfl rfl (zi rfl rfl) (zk rfl rfl rfl (fun hg => zi rfl rfl) (zk rfl rfl rfl (fun hg => qJ rfl (rfl) rfl) (zg rfl rfl (qI rfl rfl rfl rfl) (zg rfl rfl (zi rfl rfl) (zk rfl rfl rfl (fun hg => zq rfl rfl) (zk rfl rfl rfl (fun hg => qh rfl rfl (rfl) Tryz.underlying34) (zk rfl rfl rfl (fun hg => qJ rfl (rfl) rfl) (zg rfl rfl (qI rfl rfl rfl rfl) (zg rfl rfl (zi rfl rfl) (zk rfl rfl rfl (fun hg => zy (av := []) rfl trivial hkn) ?_)))))))))))
    refine zg rfl rfl (qI rfl rfl rfl rfl) (zg rfl rfl (zn rfl rfl) (zo (zf (zP ?_))))
    exact ⟨.inr rfl, AVle.of (by simp)⟩
theorem f20 (hkn : KN GE) (n : Int) (ts : List (List UInt8)) (p d : Int) : ACall Tryz.prog GE 20 [ei n, jD ts, ei p, ei d] (.v (.bool true)) := by
 cases hb : zjc ts with
 | false => exact zCZ hkn n ts p d hb
 | true =>
  by_cases ho : ts.length <= 8 /\ zAq n ts = true /\ 32 <= d /\ d <= 126
  ·
   exact f20_main hkn n ts p d hb ho.1 ho.2.1 ho.2.2
  ·
   exact zDP hkn n ts p d hb ho
end Go.Av
end
