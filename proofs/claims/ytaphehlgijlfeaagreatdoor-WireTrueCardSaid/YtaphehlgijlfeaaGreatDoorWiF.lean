
import Derived.Test.YtaphehlgijlfeaaGreatDoorWiE
set_option linter.unusedVariables false
set_option linter.unusedSimpArgs false
section
namespace Go.Av
open Go.Proofs
set_option maxRecDepth 100000
set_option maxHeartbeats 1000000
variable {G : Glob}
def zlV (g : G5) : List Int := [g.a, g.b, g.c, g.d, g.e]
def zqk (g : G5) (k : Nat) : Int := (zlV g).getD k 0
theorem zul {g : G5} {k : Nat} (h : k < 5) : (eFg g)[k]? = some (.v (.int .i64 (zqk g k))) := by
 match k, h with
 | 0, _ => rfl
 | 1, _ => rfl
 | 2, _ => rfl
 | 3, _ => rfl
 | 4, _ => rfl
theorem zCF {g : G5} (h : g.ok) {k : Nat} (hk : k < 5) : 0 <= zqk g k /\ zqk g k <= 9 := by
 unfold G5.ok at h
 match k, hk with
 | 0, _ => exact h.1
 | 1, _ => exact h.2.1
 | 2, _ => exact h.2.2.1
 | 3, _ => exact h.2.2.2.1
 | 4, _ => exact h.2.2.2.2
def five (g : G5) (w : List UInt8) : List (Int × Int) := (w.map fun b => (b.toNat : Int)).zip (zlV g)
theorem zfg {g : G5} {w : List UInt8} (h : w.length = 5) : (five g w).length = 5 := by simp [five, zlV, h]
theorem zpv {g : G5} {w : List UInt8} (h : w.length = 5) {k : Nat} (hk : k < 5) : (five g w)[k]'(by rw [zfg h]; exact hk) = ((w[k].toNat : Int), zqk g k) := by
 have e : (zlV g)[k]'(by simp [zlV]; omega) = zqk g k := by
  unfold zqk
  rw [List.getD_eq_getElem?_getD, List.getElem?_eq_getElem (by simp [zlV]; omega)]; rfl
 simp [five, e]
def okP (c : Cod) (x : Int × Int) : Bool := rgt x.1 x.2 || wrg c x.1 x.2
def wrN (x : Int × Int) : Int := if rgt x.1 x.2 then 0 else 1
def zjL (xs : List (Int × Int)) : Int := xs.foldl (fun s x => s + wrN x) 0
def zkI (l : List (List (Int × Int))) : Int := l.foldl (fun s xs => s + zjL xs) 0
theorem zmI {xs : List (Int × Int)} {k : Nat} (h : k < xs.length) : zjL (xs.take (k + 1)) = zjL (xs.take k) + wrN xs[k] := by
 unfold zjL; rw [List.take_succ_eq_append_getElem h, List.foldl_append]; rfl
theorem zmK {l : List (List (Int × Int))} {k : Nat} (h : k < l.length) : zkI (l.take (k + 1)) = zkI (l.take k) + zjL l[k] := by
 unfold zkI; rw [List.take_succ_eq_append_getElem h, List.foldl_append]; rfl
theorem zAe (xs : List (Int × Int)) : 0 <= zjL xs /\ zjL xs <= xs.length := by
 have key : ∀ (xs : List (Int × Int)) (t : Int), t <= xs.foldl (fun s x => s + wrN x) t /\ xs.foldl (fun s x => s + wrN x) t <= t + xs.length := by
  intro xs
  induction xs with
  | nil => intro t; simp
  | cons x xs ih =>
   intro t
   have h1 := ih (t + wrN x)
   have h2 : 0 <= wrN x /\ wrN x <= 1 := by unfold wrN; split <;> omega
   simp only [List.foldl_cons, List.length_cons]
   omega
 have := key xs 0
 unfold zjL; omega
theorem zz3 (l : List (List (Int × Int))) (h : ∀ xs ∈ l, xs.length <= 5) : 0 <= zkI l /\ zkI l <= 5 * l.length := by
 have key : ∀ (l : List (List (Int × Int))), (∀ xs ∈ l, xs.length <= 5) -> ∀ t : Int, t <= l.foldl (fun s xs => s + zjL xs) t /\ l.foldl (fun s xs => s + zjL xs) t <= t + 5 * l.length := by
  intro l
  induction l with
  | nil => intro _ t; simp
  | cons w l ih =>
   intro hl t
   have h1 := ih (fun v hv => hl v (List.mem_cons_of_mem _ hv)) (t + zjL w)
   have h2 := zAe w
   have h3 := hl w (List.mem_cons_self ..)
   simp only [List.foldl_cons, List.length_cons]
   omega
 have := key l h 0
 unfold zkI; omega
def prs (m : List Int) (l : List (List UInt8)) : List (List (Int × Int)) := ((vV m).zip l).map fun p => five p.1 p.2
def zmV (c : Cod) (m : List Int) (l : List (List UInt8)) : Bool := ((prs m l).all fun xs => xs.all (okP c)) && decide (zkI (prs m l) <= c.most)
theorem zrG {m : List Int} {l : List (List UInt8)} {q : Nat} (h1 : q < (vV m).length) (h2 : q < l.length) : (prs m l)[q]'(by simp [prs]; omega) = five (vV m)[q] l[q] := by simp [prs]
theorem zB2 {m : List Int} {l : List (List UInt8)} (h : ∀ w ∈ l, w.length = 5) : ∀ xs ∈ prs m l, xs.length <= 5 := fun xs hx => by
 obtain ⟨p, hp, rfl⟩ := List.mem_map.1 hx
 have := h p.2 (List.of_mem_zip hp).2
 rw [zfg this]; omega
theorem zBu {c : Cod} {a b : Int} : zbk c a b = 0 ↔ okP c (a, b) = false := by
 unfold zbk okP; cases rgt a b <;> cases wrg c a b <;> simp
theorem zBL {c : Cod} {a b : Int} (h : okP c (a, b) = true) : zbk c a b = 2 ↔ rgt a b = false := by
 unfold okP at h; unfold zbk; cases hr : rgt a b <;> simp_all
theorem zdK {c : Cod} {l : List (List UInt8)} (h : jX c l = true) : (l.length : Int) = (c.fields.length : Int) + 1 /\ ∀ w ∈ l, ofB xq w = true := by
 simp only [jX, zLa, List.all_eq_true, beq_iff_eq] at h
 exact ⟨h.2.1, h.1⟩
theorem zDe {b : UInt8} (h : xq (b.toNat : Int) = true) : 48 <= (b.toNat : Int) /\ (b.toNat : Int) <= 63 := by
 simp only [xq, zl8, zf4, Bool.or_eq_true, zLa, decide_eq_true_eq] at h
 omega
theorem wU {c : Cod} {m : List Int} (h : wS c m = true) : m.length = c.fields.length := by simp [wS, eqF] at h; exact h.1
theorem zyr (c : Cod) (m : List Int) (l : List (List UInt8)) (hc : c.fields.length <= 1000 /\ c.turns.length <= 1000) (hm1 : m.length <= 1000) (hl1 : l.length <= 1000) (hkc : jA c = true) (hkm : wS c m = true) (hkl : jX c l = true) : ACall Tryz.prog G 66 [.agg (qK c), zO m, jD l] (.tup [.v (.bool (zmV c m l)), ei 0]) := by
 have hcp := zdK hkl
 have hml := wU hkm
 have hgl : (vV m).length = m.length + 1 := by simp [vV]
 have hpl : (prs m l).length = (vV m).length := by simp [prs]; omega
 have h5 : ∀ w ∈ l, w.length = 5 := fun w hw => zcf (hcp.2 w hw)
 have hp5 := zB2 (m := m) h5
 refine zS Tryz.func66 Y (by kernel_rfl) Y ?_
 refine zuy (zh (zE8 (jf Y (zY Y)) (zE8 (zn Y Y) (zE8 (zn Y Y) (zo (zf (zuy (zuy (zh (zE8 (zZ Y Y wH (by exact zLb Y)) (zE8 (zy (av := [_]) Y ⟨Y, trivial⟩ (f116 c hc)) ?_)))))))))))
 refine zE8 (je Y Y) (zE8 (zi Y Y) (zE9 Y (fun hg => zZ Y Y wH (by exact zLb Y)) (zE9 Y (fun hg => zq Y Y) (zE9 Y (fun hg => zy (av := [_, _]) Y ⟨((if_pos hg)), ((if_pos hg)), trivial⟩ (f117 c m hm1)) (zE9 Y (fun hg => je Y (if_pos hg)) (zE8 (qU Y Y Y Y) (zE8 (zi Y Y) (zE9 Y (fun hg => zZ Y Y wH (by exact zLb Y)) (zE9 Y (fun hg => zq Y Y) (zE9 Y (fun hg => zy (av := [_, _]) Y ⟨((if_pos hg)), ((if_pos hg)), trivial⟩ (f118 c l hl1 hc.1)) (zE9 Y (fun hg => je Y (if_pos hg)) ?_)))))))))))
 refine zE8 (qU Y Y Y Y) (zo (zf (zx Y (fun h0 => ?_) (fun h0 => ?_))))
 ·
  exfalso; cases h1 : jA c <;> cases h2 : wS c m <;> cases h3 : jX c l <;> simp_all
 ·
  refine zC (zf (zuy (zh (zE8 (zn Y Y) (zo (zf (zuy (zuy (zh (zE8 (zq Y Y) (zE8 (zy (av := [_]) Y ⟨Y, trivial⟩ (f99 m hm1 (zlx hkc hkm))) ?_)))))))))))
  refine zE8 (qh Y Y Y Tryz.underlying145) (zE8 (zi Y Y) (zo (zf (zB ?_))))
  refine qy (ι := { q : Nat // q <= (vV m).length /\ ((prs m l).take q).all (fun xs => xs.all (okP c)) = true }) (fun q => ⟨Tryz.f66.ntmps, frL [(2, .pub (jD l)), (3, .pub (.ptr (qK c))), (8, I (zkI ((prs m l).take q.1))), (29, .pub (.sl ((vV m).map eFg))), (30, I ((vV m).length : Int)), (31, I (q.1 : Int))], []⟩) (fun q => (vV m).length - q.1) (⟨0, by simp⟩) ?_ ?_
  ·
   exact zt _ ⟨Y, Y, Y, Y, (congrArg (fun x : Nat => I (x : Int)) (List.length_map _)), Y, trivial⟩ (Y)
  ·
   rintro ⟨q, hq⟩
   dsimp only
   refine zuy (zh (zE8 (qi Y Y Y) (zo (zf (zuy (zx Y (fun h1 => ?_) (fun h1 => ?_)))))))
   ·
    have hlt : q < (vV m).length := by simpa using h1
    have hll : q < l.length := by omega
    have hw5 := h5 _ (List.getElem_mem hll)
    have hpq := zrG hlt hll
    have hcn := zz3 ((prs m l).take q) (fun xs hx => hp5 xs (List.mem_of_mem_take hx))
    have htk : ((prs m l).take q).length <= q := by simp; omega
    have hf5 := zfg (g := (vV m)[q]) hw5
    refine zC (zf (zuy (zB (zuy (zh (zE8 (zi Y Y) (zE8 (zG Y Y Y zrY (by omega) (zEL hlt) zsV) (zE8 (zZ Y Y zck (by exact zLb Y)) ?_))))))))
    refine zyM  Y Y Y Y Y Y Y Y (zn Y Y) Y Y Y ziu zck Y (by rfl) (zY Y) Y ?_
    refine zo (zf (zuy (zh (zE8 (zZ Y Y zck (by exact zLb Y)) (zE8 (zi Y Y) (zo (zf (zB ?_))))))))
    refine qy (ι := { k : Nat // k <= 5 /\ ((five (vV m)[q] l[q]).take k).all (okP c) = true }) (fun k => ⟨Tryz.f66.ntmps, frL [(2, .pub (jD l)), (3, .pub (.ptr (qK c))), (8, I (zkI ((prs m l).take q) + zjL ((five (vV m)[q] l[q]).take k.1))), (9, I (q : Int)), (29, .pub (.sl ((vV m).map eFg))), (30, I ((vV m).length : Int)), (31, I (q : Int)), (36, .pub (.agg (eFg (vV m)[q]))), (37, I (k.1 : Int))], []⟩) (fun k => 5 - k.1) (⟨0, by simp⟩) ?_ ?_
    ·
     exact zt _ ⟨Y, Y, (congrArg (fun x : Int => I x) (by simp [zjL])), Y, Y, Y, Y, Y, Y, trivial⟩ (Y)
    ·
     rintro ⟨k, hk⟩
     dsimp only
     refine zuy (zh (zE8 (qi Y Y Y) (zo (zf (zuy (zx Y (fun h2 => ?_) (fun h2 => ?_)))))))
     ·
      have hk5 : k < 5 := by simp at h2; omega
      have hkl2 : k < l[q].length := by omega
      have hfa := zCF (zpI _ (List.getElem_mem hlt)) hk5
      have hch := zDe (znv (hcp.2 _ (List.getElem_mem hll)) hkl2)
      have hfv := zpv (g := (vV m)[q]) hw5 hk5
      have hcb := zAe ((five (vV m)[q] l[q]).take k)
      have hct : ((five (vV m)[q] l[q]).take k).length <= 5 := by simp; omega
      have hcs := zmI (xs := five (vV m)[q] l[q]) (k := k) (by omega)
      refine zC (zf (zuy (zB (zuy (zh (zE8 (zi Y Y) ?_))))))
      refine zE8 (ztp Y Y Y vw (fun e he => by rw [Tryz.underlying118] at he; cases he; exact ty3) (by omega) (by omega) (by rw [Int.toNat_natCast]; exact zul hk5)) ?_
      refine zE8 (zn Y Y) (zE8 (zn Y Y) (zo (zf (zuy ?_))))
      refine qY mixed (by kernel_rfl) Y ?_
      refine zH Y (zZ Y Y wH (by exact zLb Y)) (zH Y (zq Y Y) (zH Y (zi Y Y) (zH Y (zG Y Y Y yJ (by omega) (xI hll) vZ) (zH Y (zA Y Y Y ty9) (zH Y (zi Y Y) ?_)))))
      refine zH Y (wC Y Y Y Tryz.underlying9 (by omega) (by rw [Int.toNat_natCast]; exact List.getElem?_eq_getElem hkl2)) ?_
      refine zH Y (zi Y Y) (zH Y (zy (av := [_, _, _]) Y ⟨Y, Y, Y, trivial⟩ (f119 c (l[q][k].toNat : Int) (zqk (vV m)[q] k) hkc hch hfa)) (jw (zf (zB (zuy (zh (zE8 (qJ Y Y Y) (zE8 (zn Y Y) (zo (zf (zx Y (fun h3 => ?_) (fun h3 => ?_))))))))))))
      ·
       have hno : okP c ((l[q][k].toNat : Int), zqk (vV m)[q] k) = false := zBu.1 (by simpa using h3)
       have hno2 : (five (vV m)[q] l[q]).all (okP c) = false := zaW (k := k) (by omega) (by rw [hfv]; exact hno)
       have hall : (prs m l).all (fun xs => xs.all (okP c)) = false := zaW (l := prs m l) (p := fun xs => xs.all (okP c)) (k := q) (by omega) (by rw [hpq]; exact hno2)
       refine zuy (zh (zE8 (zn Y Y) (zE8 (zn Y Y) (zo (zf (zP (qF (qF (zQ (zQ (qF ?_)))))))))))
       refine qF (zQ (zQ (qF (zQ ?_))))
       exact ⟨.inr Y, ⟨_, Y, ⟨_, _, Y, AVle.of (by rw [zmV, hall]; rfl), ⟨_, _, Y, AVle.refl _, Y⟩⟩⟩⟩
      ·
       have hyes : okP c ((l[q][k].toNat : Int), zqk (vV m)[q] k) = true := by
        cases hh : okP c ((l[q][k].toNat : Int), zqk (vV m)[q] k) with
        | true => rfl
        | false => exact absurd (zBu.2 hh) (by simpa using h3)
       refine zuy (zh (zE8 (qJ Y Y Y) (zE8 (zn Y Y) (zo (zf (zx Y (fun h4 => ?_) (fun h4 => ?_)))))))
       ·
        have hr : rgt (l[q][k].toNat : Int) (zqk (vV m)[q] k) = false := (zBL hyes).1 (by simpa using h4)
        rw [hfv, wrN, hr] at hcs
        simp only [Bool.false_eq_true, if_false] at hcs
        refine zh (zE8 (zi Y Y) (zE8 (zV Y Y Y ⟨(by omega), (by omega)⟩) (zE8 (zn Y Y) (zo (zD (zD (zf (zh (zE8 (zV Y Y Y ⟨(by omega), (by omega)⟩) (zE8 (zi Y Y) (zo ?_)))))))))))
        exact ⟨⟨k + 1, by omega, xQ hk.2 (by omega) (by rw [hfv]; exact hyes)⟩, by dsimp only; omega, (by refine zt (mem' := []) _ ?_ ?_; exact ⟨Y, Y, (congrArg (fun x : Int => I x) (by dsimp only; omega)), Y, Y, Y, Y, Y, Y, trivial⟩; exact Y)⟩
       ·
        have hr : rgt (l[q][k].toNat : Int) (zqk (vV m)[q] k) = true := by
         cases hh : rgt (l[q][k].toNat : Int) (zqk (vV m)[q] k) with
         | true => rfl
         | false => exact absurd ((zBL hyes).2 hh) (by simpa using h4)
        rw [hfv, wrN, hr] at hcs
        simp only [if_true] at hcs
        refine zC (zD (zD (zf (zh (zE8 (zV Y Y Y ⟨(by omega), (by omega)⟩) (zE8 (zi Y Y) (zo ?_)))))))
        exact ⟨⟨k + 1, by omega, xQ hk.2 (by omega) (by rw [hfv]; exact hyes)⟩, by dsimp only; omega, (by refine zt (mem' := []) _ ?_ ?_; exact ⟨Y, Y, (congrArg (fun x : Int => I x) (by dsimp only; omega)), Y, Y, Y, Y, Y, Y, trivial⟩; exact Y)⟩
     ·
      have hge : 5 <= k := by simp at h2; omega
      have hkk : (five (vV m)[q] l[q]).take k = five (vV m)[q] l[q] := List.take_of_length_le (by omega)
      have hcs2 : zkI ((prs m l).take q) + zjL ((five (vV m)[q] l[q]).take k) = zkI ((prs m l).take (q + 1)) := by rw [zmK (show q < (prs m l).length by omega), hpq]; exact congrArg (fun z => zkI ((prs m l).take q) + zjL z) hkk
      refine qp (zL (zL (qw (zD (zf (zh (zE8 (zV Y Y Y ⟨(by omega), (by omega)⟩) (zE8 (zi Y Y) (zo ?_)))))))))
      exact ⟨⟨q + 1, by omega, xQ hq.2 (by omega) (by rw [hpq, ← hkk]; exact hk.2)⟩, by dsimp only; omega, (by refine zt (mem' := []) _ ?_ ?_; exact ⟨Y, Y, (congrArg (fun x : Int => I x) hcs2), Y, Y, Y, trivial⟩; exact Y)⟩
   ·
    have hge : (vV m).length <= q := by simpa using h1
    have hq2 := hq.2
    rw [List.take_of_length_le (by omega)] at hq2
    have hcn := zz3 (prs m l) hp5
    have htt : (prs m l).take q = prs m l := List.take_of_length_le (by omega)
    refine qp (zL (zL (qw (zf (zuy (zh (zE8 (zi Y Y) (zE8 (zu Y Y jZ) (zE8 (zA Y Y Y ty3) (zE8 (zaq Y Y Y) (zE8 (zn Y Y) ?_)))))))))))
    refine zE8 (zn Y Y) (zo (zf (zP ?_)))
    exact ⟨.inr Y, ⟨_, Y, ⟨_, _, Y, AVle.of (by rw [zmV, hq2, htt, Bool.true_and]), ⟨_, _, Y, AVle.refl _, Y⟩⟩⟩⟩
theorem zBO {g : G5} {k : Nat} (h : k < 5) : g.chs[k]? = some (chD (zqk g k)) := by
 match k, h with
 | 0, _ => rfl
 | 1, _ => rfl
 | 2, _ => rfl
 | 3, _ => rfl
 | 4, _ => rfl
theorem zbv (x : Int × Int) : 0 <= wrN x /\ wrN x <= 1 := by unfold wrN; split <;> omega
def zjc (l : List (List UInt8)) : Bool := decide (l.length <= 12) && l.all fun w => decide (w.length <= 9)
theorem f65 (l : List (List UInt8)) : ACall Tryz.prog G 65 [jD l] (.v (.bool (zjc l))) := by
 refine zS Tryz.func65 Y (by kernel_rfl) Y ?_
 refine zuy (zh (zE8 (zn Y Y) (zo (zf (zuy (zuy (zh (zE8 (zn Y Y) (zo (zf (zB ?_)))))))))))
 refine qy (ι := { q : Nat // q <= l.length /\ q <= 12 /\ (l.take q).all (fun w => decide (w.length <= 9)) = true }) (fun q => ⟨Tryz.f65.ntmps, frL [(0, .pub (jD l)), (3, I (q.1 : Int))], []⟩) (fun q => l.length - q.1) (⟨0, by simp⟩) ?_ ?_
 ·
  exact zt _ ⟨Y, Y, trivial⟩ (Y)
 ·
  rintro ⟨q, hq⟩
  dsimp only
  refine zuy (zuy (zh (zE8 (zi Y Y) (zE8 (zq Y Y) (zE8 (qh Y Y Y Tryz.underlying34) (zE8 (qi Y Y Y) (zE8 (zi Y Y) (zE9 Y (fun hg => zi Y Y) (zE9 Y (fun hg => qi Y (if_pos hg) Y) (zE8 (qI Y Y Y Y) (zo ?_)))))))))))
  refine zf (zx Y (fun h0 => ?_) (fun h0 => ?_))
  ·
   have hlt : q < l.length := by simp [jD] at h0; omega
   have hl12 : q < 12 := by simp [jD] at h0; omega
   refine zC (zf (zuy (zB (zuy (zh (zE8 (zq Y Y) (zE8 (zi Y Y) (zE8 (zG Y Y Y yJ (by omega) (xI hlt) vZ) (zE8 (zA Y Y Y ty9) (zE8 (wE Y Y Tryz.underlying9) (zE8 (qR Y Y Y) ?_)))))))))))
   refine zo (zf (zx Y (fun h1 => ?_) (fun h1 => ?_)))
   ·
    have hb : decide (l[q].length <= 9) = false := by simp at h1 ⊢; omega
    refine zuy (zh (zE8 (zn Y Y) (zo (zf (zP (qF (zQ (zQ (qF (zQ ?_))))))))))
    exact ⟨.inr Y, AVle.of (by rw [zjc, zaW (p := fun w : List UInt8 => decide (w.length <= 9)) hlt hb, Bool.and_false])⟩
   ·
    have hb : decide (l[q].length <= 9) = true := by simp at h1 ⊢; omega
    refine zC (zD (zf (zh (zE8 (zi Y Y) (zE8 (zV Y Y Y ⟨(by omega), (by omega)⟩) (zE8 (zn Y Y) (zo ?_)))))))
    exact ⟨⟨q + 1, by omega, by omega, xQ hq.2.2 hlt hb⟩, by dsimp only; omega, zt _ ⟨Y, Y, trivial⟩ (Y)⟩
  ·
   have hge : l.length <= q ∨ 12 <= q := by simp [jD] at h0; omega
   refine qp (zL (zL (qw (zf (zuy (zh (zE8 (zq Y Y) (zE8 (qh Y Y Y Tryz.underlying34) (zE8 (zaq Y Y Y) (zE8 (zn Y Y) (zo ?_)))))))))))
   refine zf (zP ?_)
   exact ⟨.inr Y, AVle.of (congrArg (fun x : Bool => AV.v (Value.bool x)) (by rw [Bool.eq_iff_iff]; simp only [zjc, jD, List.length_map, zLa, decide_eq_true_eq, List.all_eq_true]; constructor; exact fun h => ⟨by omega, fun w hw => by have h3 := hq.2.2; rw [List.take_of_length_le (by omega), List.all_eq_true] at h3; exact of_decide_eq_true (h3 w hw)⟩; exact fun h => by omega))⟩
end Go.Av
end
