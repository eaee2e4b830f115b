
import Derived.Test.YtaphehlgijlfeaaGreatDoorWiE
set_option linter.unusedVariables false
set_option linter.unusedSimpArgs false
section
namespace Go.Av
open Go.Proofs
set_option maxRecDepth 100000
set_option maxHeartbeats 1000000
variable {G : Glob}
def zlV (g : G5) : List Int := [g.a, g.b, g.c, g.d, g.e]
def zqk (g : G5) (k : Nat) : Int := (zlV g).getD k 0
theorem zul {g : G5} {k : Nat} (h : k < 5) : (eFg g)[k]? = some (.v (.int .i64 (zqk g k))) := by
 match k, h with
 | 0, _ => rfl
 | 1, _ => rfl
 | 2, _ => rfl
 | 3, _ => rfl
 | 4, _ => rfl
def five (g : G5) (w : List UInt8) : List (Int × Int) := (w.map fun b => (b.toNat : Int)).zip (zlV g)
theorem zfg {g : G5} {w : List UInt8} (h : w.length = 5) : (five g w).length = 5 := by simp [five, zlV, h]
theorem zpv {g : G5} {w : List UInt8} (h : w.length = 5) {k : Nat} (hk : k < 5) : (five g w)[k]'(by rw [zfg h]; exact hk) = ((w[k].toNat : Int), zqk g k) := by
 have e : (zlV g)[k]'(by simp [zlV]; omega) = zqk g k := by
  unfold zqk
  rw [List.getD_eq_getElem?_getD, List.getElem?_eq_getElem (by simp [zlV]; omega)]; rfl
 simp [five, e]
def okP (c : Cod) (x : Int × Int) : Bool := rgt x.1 x.2 || wrg c x.1 x.2
def wrN (x : Int × Int) : Int := if rgt x.1 x.2 then 0 else 1
def zjL (xs : List (Int × Int)) : Int := xs.foldl (fun s x => s + wrN x) 0
def zkI (l : List (List (Int × Int))) : Int := l.foldl (fun s xs => s + zjL xs) 0
theorem zmI {xs : List (Int × Int)} {k : Nat} (h : k < xs.length) : zjL (xs.take (k + 1)) = zjL (xs.take k) + wrN xs[k] := by
 unfold zjL; rw [List.take_succ_eq_append_getElem h, List.foldl_append]; rfl
theorem zmK {l : List (List (Int × Int))} {k : Nat} (h : k < l.length) : zkI (l.take (k + 1)) = zkI (l.take k) + zjL l[k] := by
 unfold zkI; rw [List.take_succ_eq_append_getElem h, List.foldl_append]; rfl
def prs (m : List Int) (l : List (List UInt8)) : List (List (Int × Int)) := ((vV m).zip l).map fun p => five p.1 p.2
def zmV (c : Cod) (m : List Int) (l : List (List UInt8)) : Bool := ((prs m l).all fun xs => xs.all (okP c)) && decide (zkI (prs m l) <= c.most)
theorem zrG {m : List Int} {l : List (List UInt8)} {q : Nat} (h1 : q < (vV m).length) (h2 : q < l.length) : (prs m l)[q]'(by simp [prs]; omega) = five (vV m)[q] l[q] := by simp [prs]
theorem zdK {c : Cod} {l : List (List UInt8)} (h : jX c l = true) : (l.length : Int) = (c.fields.length : Int) + 1 /\ ∀ w ∈ l, ofB xq w = true := by
 simp only [jX, Bool.and_eq_true, List.all_eq_true, beq_iff_eq] at h
 exact ⟨h.2.1, h.1⟩
theorem wU {c : Cod} {m : List Int} (h : wS c m = true) : m.length = c.fields.length := by simp [wS, eqF] at h; exact h.1
end Go.Av
end
section
namespace Go.Av
open Go.Proofs
set_option maxRecDepth 100000
set_option maxHeartbeats 1000000
variable {G : Glob}
theorem zqM (c : Cod) (ch f f' : Int) (e : f' = f) (hk : jA c = true) (hch : 48 <= ch /\ ch <= 63) (hf : 0 <= f /\ f <= 9) : ACall Tryz.prog G 121 [.agg (qK c), .v (.int .i64 f'), .v (.int .u8 ch)] (.tup [.v (.int .i64 (wrN (ch, f))), .v (.bool (okP c (ch, f)))]) := by
 subst e
 exact f121 c ch f' hk hch hf
theorem zbv (x : Int × Int) : 0 <= wrN x /\ wrN x <= 1 := by unfold wrN; split <;> omega
def zjc (l : List (List UInt8)) : Bool := decide (l.length <= 12) && l.all fun w => decide (w.length <= 9)
theorem f65 (l : List (List UInt8)) : ACall Tryz.prog G 65 [jD l] (.v (.bool (zjc l))) := by
 refine zS Tryz.func65 rfl (by kernel_rfl) rfl ?_
 refine zl (zh (zg rfl rfl (zn rfl rfl) (zo (zf (zl (zl (zh (zg rfl rfl (zn rfl rfl) (zo (zf (zB ?_)))))))))))
 refine qy (ι := { q : Nat // q <= l.length /\ q <= 12 /\ (l.take q).all (fun w => decide (w.length <= 9)) = true }) (fun q => ⟨Tryz.f65.ntmps, frL [(0, .pub (jD l)), (3, I (q.1 : Int))], []⟩) (fun q => l.length - q.1) (⟨0, by simp⟩) ?_ ?_
 ·
  exact zt _ ⟨rfl, rfl, trivial⟩ (rfl)
 ·
  rintro ⟨q, hq⟩
  dsimp only
  refine zl (zl (zh (zg rfl rfl (zi rfl rfl) (zg rfl rfl (zq rfl rfl) (zg rfl rfl (qh rfl rfl rfl Tryz.underlying34) (zg rfl rfl (qi rfl rfl rfl) (zg rfl rfl (zi rfl rfl) (zk rfl rfl rfl (fun hg => zi rfl rfl) (zk rfl rfl rfl (fun hg => qi rfl (if_pos hg) rfl) (zg rfl rfl (qI rfl rfl rfl rfl) (zo ?_)))))))))))
  refine zf (zx rfl (fun h0 => ?_) (fun h0 => ?_))
  ·
   have hlt : q < l.length := by simp [jD] at h0; omega
   have hl12 : q < 12 := by simp [jD] at h0; omega
   refine zC (zf (zl (zB (zl (zh (zg rfl rfl (zq rfl rfl) (zg rfl rfl (zi rfl rfl) (zg rfl rfl (zG rfl rfl rfl yJ (by omega) (xI hlt) vZ) (zg rfl rfl (zA rfl rfl rfl ty9) (zg rfl rfl (wE rfl rfl Tryz.underlying9) (zg rfl rfl (qR rfl rfl rfl) ?_)))))))))))
   refine zo (zf (zx rfl (fun h1 => ?_) (fun h1 => ?_)))
   ·
    have hb : decide (l[q].length <= 9) = false := by simp at h1 ⊢; omega
    refine zl (zh (zg rfl rfl (zn rfl rfl) (zo (zf (zP (qF (zQ (zQ (qF (zQ ?_))))))))))
    exact ⟨.inr rfl, AVle.of (by rw [zjc, zaW (p := fun w : List UInt8 => decide (w.length <= 9)) hlt hb, Bool.and_false])⟩
   ·
    have hb : decide (l[q].length <= 9) = true := by simp at h1 ⊢; omega
    refine zC (zD (zf (zh (zg rfl rfl (zi rfl rfl) (zg rfl rfl (zV rfl rfl rfl ⟨(by omega), (by omega)⟩) (zg rfl rfl (zn rfl rfl) (zo ?_)))))))
    exact ⟨⟨q + 1, by omega, by omega, xQ hq.2.2 hlt hb⟩, by dsimp only; omega, zt _ ⟨rfl, rfl, trivial⟩ (rfl)⟩
  ·
   have hge : l.length <= q ∨ 12 <= q := by simp [jD] at h0; omega
   refine qp (zL (zL (qw (zf (zl (zh (zg rfl rfl (zq rfl rfl) (zg rfl rfl (qh rfl rfl rfl Tryz.underlying34) (zg rfl rfl (zaq rfl rfl rfl) (zg rfl rfl (zn rfl rfl) (zo ?_)))))))))))
   refine zf (zP ?_)
   exact ⟨.inr rfl, AVle.of (congrArg (fun x : Bool => AV.v (Value.bool x)) (by rw [Bool.eq_iff_iff]; simp only [zjc, jD, List.length_map, Bool.and_eq_true, decide_eq_true_eq, List.all_eq_true]; constructor; exact fun h => ⟨by omega, fun w hw => by have h3 := hq.2.2; rw [List.take_of_length_le (by omega), List.all_eq_true] at h3; exact of_decide_eq_true (h3 w hw)⟩; exact fun h => by omega))⟩
end Go.Av
end
