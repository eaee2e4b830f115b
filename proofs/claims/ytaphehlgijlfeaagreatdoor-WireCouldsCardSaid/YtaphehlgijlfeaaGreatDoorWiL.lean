
import Derived.Test.YtaphehlgijlfeaaGreatDoorWiJ
import Derived.Test.YtaphehlgijlfeaaGreatDoorPlatE
set_option linter.unusedVariables false
set_option linter.unusedSimpArgs false
section
namespace Go.Av
open Go.Proofs
set_option maxRecDepth 100000
set_option maxHeartbeats 1000000
variable {G : Glob}
theorem zi7 : (Tryz.prog.info? 185).bind (·.zero) = some (.agg #[.int .i64 0, .int .i64 0, .int .i64 0]) := by kernel_rfl
theorem zjF : fldIs Tryz.prog 134 1 3 = true := by kernel_rfl
theorem zr5 : tyIs Tryz.prog 26 false 1 = true := by kernel_rfl
theorem zbo : zau Tryz.prog 26 1 = true := by kernel_rfl
theorem zfC : tyIs Tryz.prog 34 false 1 = true := by kernel_rfl
theorem jJ : fldIs Tryz.prog 134 0 0 = true := by kernel_rfl
theorem jY : zgU Tryz.prog 185 3 1 = true := by kernel_rfl
theorem ji : tyIs Tryz.prog 185 true 3 = true := by kernel_rfl
def yc (c : Cod) (l : List (List (List UInt8))) : List AV := [.sl (c.fields.map ye), zO c.turns, .v (.int .i64 c.most), qO l]
def chF (g : List (List UInt8)) (at' place : Nat) : Int := (((g.getD at' []).getD place 0).toNat : Int)
theorem zaL {l : List (List (List UInt8))} {k : Nat} (h : k < l.length) : (l.map fun g => [jD g])[k]? = some [jD l[k]] := by simp [h]
theorem yS {l : List (List (List UInt8))} : ∀ q ∈ l.map (fun g => [jD g]), q.length = 1 := by simp
theorem za3 {c : Cod} {g : List (List UInt8)} {at' place : Nat} (h : jX c g = true) (h1 : at' <= c.fields.length) (h2 : place < 5) : ∃ (x : at' < g.length) (y : place < g[at'].length), chF g at' place = (g[at'][place].toNat : Int) /\ 48 <= chF g at' place /\ chF g at' place <= 63 := by
 simp only [jX, Bool.and_eq_true, List.all_eq_true, beq_iff_eq] at h
 have x : at' < g.length := by omega
 have h3 := h.1 _ (List.getElem_mem x)
 have h5 := zcf h3
 have y : place < g[at'].length := by omega
 have e : chF g at' place = (g[at'][place].toNat : Int) := by
  unfold chF
  have e1 : g.getD at' [] = g[at'] := by rw [List.getD_eq_getElem?_getD, List.getElem?_eq_getElem x, Option.getD_some]
  rw [e1, List.getD_eq_getElem?_getD, List.getElem?_eq_getElem y, Option.getD_some]
 have h6 := znv h3 y
 refine ⟨x, y, e, ?_⟩
 rw [e]
 simp only [xq, zl8, zf4, Bool.or_eq_true, Bool.and_eq_true, decide_eq_true_eq] at h6
 omega
def wP (l : List (List (List UInt8))) (at' place : Nat) (f : Int) (i : Nat) : Int := if h : i < l.length then wrN (chF l[i] at' place, f) else 0
def okQ (c : Cod) (l : List (List (List UInt8))) (at' place : Nat) (f : Int) (i : Nat) (n : Int) : Bool := if h : i < l.length then okP c (chF l[i] at' place, f) && decide (n + wrN (chF l[i] at' place, f) <= c.most) else true
def vN (c : Cod) (l : List (List (List UInt8))) (at' place : Nat) (f : Int) (n : Int × Int × Int) : Bool := okQ c l at' place f 0 n.1 && (okQ c l at' place f 1 n.2.1 && okQ c l at' place f 2 n.2.2)
def plN (l : List (List (List UInt8))) (at' place : Nat) (f : Int) (n : Int × Int × Int) : Int × Int × Int := (n.1 + wP l at' place f 0, n.2.1 + wP l at' place f 1, n.2.2 + wP l at' place f 2)
def eCn (n : Int × Int × Int) : List AV := [ei n.1, ei n.2.1, ei n.2.2]
theorem zef (l : List (List (List UInt8))) (at' place : Nat) (f : Int) (i : Nat) : 0 <= wP l at' place f i /\ wP l at' place f i <= 1 := by
 unfold wP wrN; split
 ·
  split <;> omega
 ·
  omega
theorem zcx {l : List (List (List UInt8))} {at' place : Nat} {f : Int} {i : Nat} (h : l.length <= i) : wP l at' place f i = 0 := by unfold wP; rw [dif_neg (by omega)]
theorem zaR {c : Cod} {l : List (List (List UInt8))} {at' place : Nat} {f : Int} {i : Nat} {n : Int} (h : l.length <= i) : okQ c l at' place f i n = true := by unfold okQ; rw [dif_neg (by omega)]
theorem zdL (c : Cod) (ch f : Int) : (zbk c ch f = 1 /\ rgt ch f = true) ∨ (zbk c ch f = 2 /\ rgt ch f = false /\ wrg c ch f = true) ∨ (zbk c ch f = 0 /\ rgt ch f = false /\ wrg c ch f = false) := by
 unfold zbk
 cases h1 : rgt ch f with
 | true => simp
 | false => cases h2 : wrg c ch f <;> simp
theorem zdt {c : Cod} {l : List (List (List UInt8))} {at' place : Nat} {f n : Int} {i : Nat} (h : i < l.length) (hh : zbk c (chF l[i] at' place) f = 0) : okQ c l at' place f i n = false := by
 rcases zdL c (chF l[i] at' place) f with ⟨h1, _⟩ | ⟨h1, _⟩ | ⟨_, h1, h2⟩
 ·
  omega
 ·
  omega
 ·
  unfold okQ; rw [dif_pos h]; simp [okP, h1, h2]
theorem kZ {c : Cod} {l : List (List (List UInt8))} {at' place : Nat} {f n : Int} {i : Nat} (h : i < l.length) (hh : zbk c (chF l[i] at' place) f = 2) : wP l at' place f i = 1 /\ okQ c l at' place f i n = decide (n + 1 <= c.most) := by
 rcases zdL c (chF l[i] at' place) f with ⟨h1, _⟩ | ⟨_, h1, h2⟩ | ⟨h1, _⟩
 ·
  omega
 ·
  unfold wP okQ; rw [dif_pos h, dif_pos h]; simp [okP, wrN, h1, h2]
 ·
  omega
theorem xe {c : Cod} {l : List (List (List UInt8))} {at' place : Nat} {f n : Int} {i : Nat} (h : i < l.length) (h0 : zbk c (chF l[i] at' place) f ≠ 0) (h2 : zbk c (chF l[i] at' place) f ≠ 2) : wP l at' place f i = 0 /\ okQ c l at' place f i n = decide (n <= c.most) := by
 rcases zdL c (chF l[i] at' place) f with ⟨_, h1⟩ | ⟨h1, _⟩ | ⟨h1, _⟩
 ·
  unfold wP okQ; rw [dif_pos h, dif_pos h]; simp [okP, wrN, h1]
 ·
  omega
 ·
  omega
def zdj (n : Int × Int × Int) (c : Cod) (l : List (List (List UInt8))) (at' place : Nat) (f : Int) : Nat -> Bool
 | 0 => okQ c l at' place f 0 n.1
 | 1 => okQ c l at' place f 1 n.2.1
 | _ => okQ c l at' place f 2 n.2.2
theorem zoD {n : Int × Int × Int} {c : Cod} {l : List (List (List UInt8))} {at' place : Nat} {f : Int} (h : vN c l at' place f n = true) : ∀ i, i < 3 -> zdj n c l at' place f i = true := fun i hi => by
 simp only [vN, Bool.and_eq_true] at h
 match i, hi with
 | 0, _ => exact h.1
 | 1, _ => exact h.2.1
 | 2, _ => exact h.2.2
theorem zsu {l : List (List (List UInt8))} {at' place : Nat} {f : Int} {n : Int × Int × Int} (_h : l.length <= 0) (_ : 0 <= 1) : ei (n.1) = ei ((plN l at' place f n).1) := by
 unfold plN; simp only; rw [zcx (by omega), Int.add_zero]
theorem zsr {l : List (List (List UInt8))} {at' place : Nat} {f : Int} {n : Int × Int × Int} (_h : l.length <= 0) (_ : 0 <= 1) : ei (n.2.1) = ei ((plN l at' place f n).2.1) := by
 unfold plN; simp only; rw [zcx (by omega), Int.add_zero]
theorem zr6 {l : List (List (List UInt8))} {at' place : Nat} {f : Int} {n : Int × Int × Int} (_h : l.length <= 0) (_ : 0 <= 1) : ei (n.2.2) = ei ((plN l at' place f n).2.2) := by
 unfold plN; simp only; rw [zcx (by omega), Int.add_zero]
theorem zsG {l : List (List (List UInt8))} {at' place : Nat} {f : Int} {n : Int × Int × Int} (_h : l.length <= 1) (_ : 0 <= 1) : ei (n.1 + wP l at' place f 0) = ei ((plN l at' place f n).1) := by
 rfl
theorem zsa {l : List (List (List UInt8))} {at' place : Nat} {f : Int} {n : Int × Int × Int} (_h : l.length <= 1) (_ : 0 <= 1) : ei (n.2.1) = ei ((plN l at' place f n).2.1) := by
 unfold plN; simp only; rw [zcx (by omega), Int.add_zero]
theorem zsg {l : List (List (List UInt8))} {at' place : Nat} {f : Int} {n : Int × Int × Int} (_h : l.length <= 1) (_ : 0 <= 1) : ei (n.2.2) = ei ((plN l at' place f n).2.2) := by
 unfold plN; simp only; rw [zcx (by omega), Int.add_zero]
theorem zr8 {l : List (List (List UInt8))} {at' place : Nat} {f : Int} {n : Int × Int × Int} (_h : l.length <= 2) (_ : 0 <= 1) : ei (n.1 + wP l at' place f 0) = ei ((plN l at' place f n).1) := by
 rfl
theorem zsK {l : List (List (List UInt8))} {at' place : Nat} {f : Int} {n : Int × Int × Int} (_h : l.length <= 2) (_ : 0 <= 1) : ei (n.2.1 + wP l at' place f 1) = ei ((plN l at' place f n).2.1) := by
 rfl
theorem zsB {l : List (List (List UInt8))} {at' place : Nat} {f : Int} {n : Int × Int × Int} (_h : l.length <= 2) (_ : 0 <= 1) : ei (n.2.2) = ei ((plN l at' place f n).2.2) := by
 unfold plN; simp only; rw [zcx (by omega), Int.add_zero]
theorem zr9 {l : List (List (List UInt8))} {at' place : Nat} {f : Int} {n : Int × Int × Int} (_h : l.length <= 3) (_ : 0 <= 1) : ei (n.1 + wP l at' place f 0) = ei ((plN l at' place f n).1) := by
 rfl
theorem zsn {l : List (List (List UInt8))} {at' place : Nat} {f : Int} {n : Int × Int × Int} (_h : l.length <= 3) (_ : 0 <= 1) : ei (n.2.1 + wP l at' place f 1) = ei ((plN l at' place f n).2.1) := by
 rfl
theorem zsS {l : List (List (List UInt8))} {at' place : Nat} {f : Int} {n : Int × Int × Int} (_h : l.length <= 3) (_ : 0 <= 1) : ei (n.2.2 + wP l at' place f 2) = ei ((plN l at' place f n).2.2) := by
 rfl
theorem zpR (c : Cod) (l : List (List (List UInt8))) (n : Int × Int × Int) (at' place : Nat) (f : Int) (hc : jA c = true) (hl : l.length <= 3) (hcp : ∀ g ∈ l, jX c g = true) (hat : at' <= c.fields.length) (hpl : place < 5) (hf : 0 <= f /\ f <= 9) (hn : 0 <= n.1 /\ n.1 <= 1000 /\ 0 <= n.2.1 /\ n.2.1 <= 1000 /\ 0 <= n.2.2 /\ n.2.2 <= 1000) (hyes : vN c l at' place f n = true) : ACall Tryz.prog G 137 [.agg (yc c l), .agg (eCn n), ei (at' : Int), ei (place : Int), ei f] (.tup [.agg (eCn (plN l at' place f n)), .v (.bool true)]) := by
 have hb0 := zef l at' place f 0
 have hb1 := zef l at' place f 1
 have hb2 := zef l at' place f 2
 have hall := zoD hyes
 refine zS Tryz.func137 rfl (by kernel_rfl) rfl ?_
 refine zl (zh (zg rfl rfl (jf rfl (zY rfl)) (jb rfl (zqW rfl rfl (zY rfl)) (jb rfl (wJ rfl rfl zi7 rfl rfl) (zg rfl rfl (zn rfl rfl) (zo (zf (zl (zl (zh (zg rfl rfl (zu rfl rfl zjF) ?_)))))))))))
 refine zg rfl rfl (zA rfl rfl rfl zr5) (zg rfl rfl (qh rfl rfl rfl Tryz.underlying26) (zg rfl rfl (zi rfl rfl) (zo (zf (zB ?_)))))
 refine qy (ι := { k : Nat // k < 4 }) (fun k => match k.1 with | 0 => ⟨Tryz.f137.ntmps, frL [(2, I (at' : Int)), (3, I (place : Int)), (4, I f), (5, .pub (.ptr (yc c l))), (6, .pp 0 1 0 0), (10, .pp 1 1 0 0), (15, .pub (qO l)), (16, I (l.length : Int)), (17, I 0)], [.row [[I n.1, I n.2.1, I n.2.2]], .row [[I 0, I 0, I 0]]]⟩ | 1 => ⟨Tryz.f137.ntmps, frL [(2, I (at' : Int)), (3, I (place : Int)), (4, I f), (5, .pub (.ptr (yc c l))), (6, .pp 0 1 0 0), (10, .pp 1 1 0 0), (15, .pub (qO l)), (16, I (l.length : Int)), (17, I 1)], [.row [[I (n.1 + wP l at' place f 0), I n.2.1, I n.2.2]], .row [[I 0, I 0, I 0]]]⟩ | 2 => ⟨Tryz.f137.ntmps, frL [(2, I (at' : Int)), (3, I (place : Int)), (4, I f), (5, .pub (.ptr (yc c l))), (6, .pp 0 1 0 0), (10, .pp 1 1 0 0), (15, .pub (qO l)), (16, I (l.length : Int)), (17, I 2)], [.row [[I (n.1 + wP l at' place f 0), I (n.2.1 + wP l at' place f 1), I n.2.2]], .row [[I 0, I 0, I 0]]]⟩ | _ => ⟨Tryz.f137.ntmps, frL [(2, I (at' : Int)), (3, I (place : Int)), (4, I f), (5, .pub (.ptr (yc c l))), (6, .pp 0 1 0 0), (10, .pp 1 1 0 0), (15, .pub (qO l)), (16, I (l.length : Int)), (17, I 3)], [.row [[I (n.1 + wP l at' place f 0), I (n.2.1 + wP l at' place f 1), I (n.2.2 + wP l at' place f 2)]], .row [[I 0, I 0, I 0]]]⟩) (fun k => 4 - k.1) (⟨0, by omega⟩) ?_ ?_
 ·
  exact zt _ ⟨rfl, rfl, rfl, rfl, rfl, rfl, rfl, (congrArg (fun x : Nat => I (x : Int)) (List.length_map _)), rfl, trivial⟩ (rfl)
 ·
  rintro ⟨k, hk⟩
  have hk3 : k = 0 ∨ k = 1 ∨ k = 2 ∨ k = 3 := by omega
  rcases hk3 with rfl | rfl | rfl | rfl
  ·
   dsimp only
   refine zl (zh (zg rfl rfl (qi rfl rfl rfl) (zo (zf (zl (zx rfl (fun h0 => ?_) (fun h0 => ?_)))))))
   ·
    have hlt : 0 < l.length := by simp at h0; omega
    obtain ⟨hx, hy, hch, hc1, hc2⟩ := za3 (hcp _ (List.getElem_mem hlt)) hat hpl
    refine zC (zf (zl (zB (zl (zh (zg rfl rfl (zi rfl rfl) (zg rfl rfl (zG rfl rfl rfl zbo (by omega) (zaL hlt) yS) (zg rfl rfl (zA rfl rfl rfl zfC) (zg rfl rfl (zn rfl rfl) (zg rfl rfl (zW rfl rfl) (zo ?_)))))))))))
    refine zf (zl (zl ?_))
    refine qY mixed (by kernel_rfl) rfl ?_
    refine zH rfl (zu rfl rfl jJ) (zH rfl (zZ rfl rfl wH (by exact zLb rfl)) (zH rfl (zq rfl rfl) (zH rfl (zi rfl rfl) (zH rfl (zG rfl rfl rfl yJ (by omega) (xI hx) vZ) (zH rfl (zA rfl rfl rfl ty9) (zH rfl (zi rfl rfl) ?_))))))
    refine zH rfl (wC rfl rfl rfl Tryz.underlying9 (by omega) (by rw [Int.toNat_natCast]; exact List.getElem?_eq_getElem hy)) ?_
    refine zH rfl (zi rfl rfl) (zH rfl (zy (av := [_, _, _]) rfl ⟨rfl, rfl, rfl, trivial⟩ (hch ▸ f119 c _ f hc ⟨hc1, hc2⟩ hf)) (jw (zf (zB (zl (zh (zg rfl rfl (qJ rfl rfl rfl) (zg rfl rfl (zn rfl rfl) (zo (zf (zx rfl (fun h1 => ?_) (fun h1 => ?_))))))))))))
    ·
     exfalso; have hq := zdt (c := c) (at' := at') (place := place) (f := f) (n := n.1) hlt (by rw [hch]; simpa using h1); have := (hall 0 (by omega)).symm.trans hq; cases this
    ·
     have hn0 : zbk c (chF l[0] at' place) f ≠ 0 := by rw [hch]; simpa using h1
     refine zl (zh (zg rfl rfl (qJ rfl rfl rfl) (zg rfl rfl (zn rfl rfl) (zo (zf (zx rfl (fun h2 => ?_) (fun h2 => ?_)))))))
     ·
      have hwq := kZ (c := c) (at' := at') (place := place) (f := f) (n := n.1) hlt (by rw [hch]; simpa using h2)
      have hW := hwq.1
      have hq := hwq.2
      refine zh (zg rfl rfl (zi rfl rfl) (zg rfl rfl (zJ rfl rfl rfl rfl rfl jY (by omega) (by omega)) (zg rfl rfl (zK rfl rfl rfl rfl rfl rfl ty3) (zg rfl rfl (zV rfl rfl rfl ⟨(by omega), (by omega)⟩) (zg rfl rfl (zJ rfl rfl rfl rfl rfl jY (by omega) (by omega)) ?_)))))
      refine jb rfl (qG rfl rfl rfl rfl rfl rfl (jF rfl) ty3 (by rfl) (by exact zLb rfl)) ?_
      refine zo (zD (zf (zl ?_)))
      refine qY mixed (by kernel_rfl) rfl ?_
      refine zH rfl (zi rfl rfl) (zH rfl (zJ rfl rfl rfl rfl rfl jY (by omega) (by omega)) (zH rfl (zK rfl rfl rfl rfl rfl rfl ty3) (zH rfl (zu rfl rfl jJ) (zH rfl (zu rfl rfl jZ) (zH rfl (zA rfl rfl rfl ty3) (zH rfl (qR rfl rfl rfl) (jw (zf (zx rfl (fun h3 => ?_) (fun h3 => ?_))))))))))
      ·
       exfalso; have := hq.symm.trans (hall 0 (by omega)); simp at this h3; omega
      ·
       have hok : True := trivial
       refine zC (zD (zf (zh (zg rfl rfl (zV rfl rfl rfl ⟨(by omega), (by omega)⟩) (zg rfl rfl (zi rfl rfl) (zo ?_))))))
       exact ⟨⟨1, by omega⟩, by dsimp only; omega, (by refine zt (mem' := [.row [[I (n.1 + wP l at' place f 0), I n.2.1, I n.2.2]], .row [[I 0, I 0, I 0]]]) [(2, I (at' : Int)), (3, I (place : Int)), (4, I f), (5, .pub (.ptr (yc c l))), (6, .pp 0 1 0 0), (10, .pp 1 1 0 0), (15, .pub (qO l)), (16, I (l.length : Int)), (17, I 1)] ?_ ?_; exact ⟨rfl, rfl, rfl, rfl, rfl, rfl, rfl, rfl, rfl, trivial⟩; exact (congrArg (fun z => [PO.row [z], .row [[I 0, I 0, I 0]]]) (by first | rw [hW, Int.add_zero] | rw [hW]; rfl | rw [hW])))⟩
     ·
      have hwq := xe (c := c) (at' := at') (place := place) (f := f) (n := n.1) hlt hn0 (by rw [hch]; simpa using h2)
      have hW := hwq.1
      have hq := hwq.2
      refine zC (zD (zf (zl ?_)))
      refine qY mixed (by kernel_rfl) rfl ?_
      refine zH rfl (zi rfl rfl) (zH rfl (zJ rfl rfl rfl rfl rfl jY (by omega) (by omega)) (zH rfl (zK rfl rfl rfl rfl rfl rfl ty3) (zH rfl (zu rfl rfl jJ) (zH rfl (zu rfl rfl jZ) (zH rfl (zA rfl rfl rfl ty3) (zH rfl (qR rfl rfl rfl) (jw (zf (zx rfl (fun h3 => ?_) (fun h3 => ?_))))))))))
      ·
       exfalso; have := hq.symm.trans (hall 0 (by omega)); simp at this h3; omega
      ·
       have hok : True := trivial
       refine zC (zD (zf (zh (zg rfl rfl (zV rfl rfl rfl ⟨(by omega), (by omega)⟩) (zg rfl rfl (zi rfl rfl) (zo ?_))))))
       exact ⟨⟨1, by omega⟩, by dsimp only; omega, (by refine zt (mem' := [.row [[I (n.1 + wP l at' place f 0), I n.2.1, I n.2.2]], .row [[I 0, I 0, I 0]]]) [(2, I (at' : Int)), (3, I (place : Int)), (4, I f), (5, .pub (.ptr (yc c l))), (6, .pp 0 1 0 0), (10, .pp 1 1 0 0), (15, .pub (qO l)), (16, I (l.length : Int)), (17, I 1)] ?_ ?_; exact ⟨rfl, rfl, rfl, rfl, rfl, rfl, rfl, rfl, rfl, trivial⟩; exact (congrArg (fun z => [PO.row [z], .row [[I 0, I 0, I 0]]]) (by first | rw [hW, Int.add_zero] | rw [hW]; rfl | rw [hW])))⟩
   ·
    have hge : l.length <= 0 := by simp at h0; first | omega | simp [h0]
    refine qp (zL (zL (qw (zf (zl (zh (zg rfl rfl (qN (cs := [_, _, _]) rfl rfl rfl rfl rfl (by exact zLb rfl) rfl ji) ?_)))))))
    refine jb rfl (qG rfl rfl rfl rfl rfl rfl (zY rfl) ji (by rfl) (by exact zLb rfl)) ?_
    refine zg rfl rfl (zn rfl rfl) (zo (zf (zP ?_)))
    exact ⟨.inr rfl, ⟨_, rfl, ⟨_, _, rfl, (jK rfl rfl rfl rfl ji rfl ⟨_, _, rfl, AVle.of (zsu hge (by omega)), ⟨_, _, rfl, AVle.of (zsr hge (by omega)), ⟨_, _, rfl, AVle.of (zr6 hge (by omega)), rfl⟩⟩⟩), ⟨_, _, rfl, AVle.refl _, rfl⟩⟩⟩⟩
  ·
   dsimp only
   refine zl (zh (zg rfl rfl (qi rfl rfl rfl) (zo (zf (zl (zx rfl (fun h0 => ?_) (fun h0 => ?_)))))))
   ·
    have hlt : 1 < l.length := by simp at h0; omega
    obtain ⟨hx, hy, hch, hc1, hc2⟩ := za3 (hcp _ (List.getElem_mem hlt)) hat hpl
    refine zC (zf (zl (zB (zl (zh (zg rfl rfl (zi rfl rfl) (zg rfl rfl (zG rfl rfl rfl zbo (by omega) (zaL hlt) yS) (zg rfl rfl (zA rfl rfl rfl zfC) (zg rfl rfl (zn rfl rfl) (zg rfl rfl (zW rfl rfl) (zo ?_)))))))))))
    refine zf (zl (zl ?_))
    refine qY mixed (by kernel_rfl) rfl ?_
    refine zH rfl (zu rfl rfl jJ) (zH rfl (zZ rfl rfl wH (by exact zLb rfl)) (zH rfl (zq rfl rfl) (zH rfl (zi rfl rfl) (zH rfl (zG rfl rfl rfl yJ (by omega) (xI hx) vZ) (zH rfl (zA rfl rfl rfl ty9) (zH rfl (zi rfl rfl) ?_))))))
    refine zH rfl (wC rfl rfl rfl Tryz.underlying9 (by omega) (by rw [Int.toNat_natCast]; exact List.getElem?_eq_getElem hy)) ?_
    refine zH rfl (zi rfl rfl) (zH rfl (zy (av := [_, _, _]) rfl ⟨rfl, rfl, rfl, trivial⟩ (hch ▸ f119 c _ f hc ⟨hc1, hc2⟩ hf)) (jw (zf (zB (zl (zh (zg rfl rfl (qJ rfl rfl rfl) (zg rfl rfl (zn rfl rfl) (zo (zf (zx rfl (fun h1 => ?_) (fun h1 => ?_))))))))))))
    ·
     exfalso; have hq := zdt (c := c) (at' := at') (place := place) (f := f) (n := n.2.1) hlt (by rw [hch]; simpa using h1); have := (hall 1 (by omega)).symm.trans hq; cases this
    ·
     have hn0 : zbk c (chF l[1] at' place) f ≠ 0 := by rw [hch]; simpa using h1
     refine zl (zh (zg rfl rfl (qJ rfl rfl rfl) (zg rfl rfl (zn rfl rfl) (zo (zf (zx rfl (fun h2 => ?_) (fun h2 => ?_)))))))
     ·
      have hwq := kZ (c := c) (at' := at') (place := place) (f := f) (n := n.2.1) hlt (by rw [hch]; simpa using h2)
      have hW := hwq.1
      have hq := hwq.2
      refine zh (zg rfl rfl (zi rfl rfl) (zg rfl rfl (zJ rfl rfl rfl rfl rfl jY (by omega) (by omega)) (zg rfl rfl (zK rfl rfl rfl rfl rfl rfl ty3) (zg rfl rfl (zV rfl rfl rfl ⟨(by omega), (by omega)⟩) (zg rfl rfl (zJ rfl rfl rfl rfl rfl jY (by omega) (by omega)) ?_)))))
      refine jb rfl (qG rfl rfl rfl rfl rfl rfl (jF rfl) ty3 (by rfl) (by exact zLb rfl)) ?_
      refine zo (zD (zf (zl ?_)))
      refine qY mixed (by kernel_rfl) rfl ?_
      refine zH rfl (zi rfl rfl) (zH rfl (zJ rfl rfl rfl rfl rfl jY (by omega) (by omega)) (zH rfl (zK rfl rfl rfl rfl rfl rfl ty3) (zH rfl (zu rfl rfl jJ) (zH rfl (zu rfl rfl jZ) (zH rfl (zA rfl rfl rfl ty3) (zH rfl (qR rfl rfl rfl) (jw (zf (zx rfl (fun h3 => ?_) (fun h3 => ?_))))))))))
      ·
       exfalso; have := hq.symm.trans (hall 1 (by omega)); simp at this h3; omega
      ·
       have hok : True := trivial
       refine zC (zD (zf (zh (zg rfl rfl (zV rfl rfl rfl ⟨(by omega), (by omega)⟩) (zg rfl rfl (zi rfl rfl) (zo ?_))))))
       exact ⟨⟨2, by omega⟩, by dsimp only; omega, (by refine zt (mem' := [.row [[I (n.1 + wP l at' place f 0), I (n.2.1 + wP l at' place f 1), I n.2.2]], .row [[I 0, I 0, I 0]]]) [(2, I (at' : Int)), (3, I (place : Int)), (4, I f), (5, .pub (.ptr (yc c l))), (6, .pp 0 1 0 0), (10, .pp 1 1 0 0), (15, .pub (qO l)), (16, I (l.length : Int)), (17, I 2)] ?_ ?_; exact ⟨rfl, rfl, rfl, rfl, rfl, rfl, rfl, rfl, rfl, trivial⟩; exact (congrArg (fun z => [PO.row [z], .row [[I 0, I 0, I 0]]]) (by first | rw [hW, Int.add_zero] | rw [hW]; rfl | rw [hW])))⟩
     ·
      have hwq := xe (c := c) (at' := at') (place := place) (f := f) (n := n.2.1) hlt hn0 (by rw [hch]; simpa using h2)
      have hW := hwq.1
      have hq := hwq.2
      refine zC (zD (zf (zl ?_)))
      refine qY mixed (by kernel_rfl) rfl ?_
      refine zH rfl (zi rfl rfl) (zH rfl (zJ rfl rfl rfl rfl rfl jY (by omega) (by omega)) (zH rfl (zK rfl rfl rfl rfl rfl rfl ty3) (zH rfl (zu rfl rfl jJ) (zH rfl (zu rfl rfl jZ) (zH rfl (zA rfl rfl rfl ty3) (zH rfl (qR rfl rfl rfl) (jw (zf (zx rfl (fun h3 => ?_) (fun h3 => ?_))))))))))
      ·
       exfalso; have := hq.symm.trans (hall 1 (by omega)); simp at this h3; omega
      ·
       have hok : True := trivial
       refine zC (zD (zf (zh (zg rfl rfl (zV rfl rfl rfl ⟨(by omega), (by omega)⟩) (zg rfl rfl (zi rfl rfl) (zo ?_))))))
       exact ⟨⟨2, by omega⟩, by dsimp only; omega, (by refine zt (mem' := [.row [[I (n.1 + wP l at' place f 0), I (n.2.1 + wP l at' place f 1), I n.2.2]], .row [[I 0, I 0, I 0]]]) [(2, I (at' : Int)), (3, I (place : Int)), (4, I f), (5, .pub (.ptr (yc c l))), (6, .pp 0 1 0 0), (10, .pp 1 1 0 0), (15, .pub (qO l)), (16, I (l.length : Int)), (17, I 2)] ?_ ?_; exact ⟨rfl, rfl, rfl, rfl, rfl, rfl, rfl, rfl, rfl, trivial⟩; exact (congrArg (fun z => [PO.row [z], .row [[I 0, I 0, I 0]]]) (by first | rw [hW, Int.add_zero] | rw [hW]; rfl | rw [hW])))⟩
   ·
    have hge : l.length <= 1 := by simp at h0; first | omega | simp [h0]
    refine qp (zL (zL (qw (zf (zl (zh (zg rfl rfl (qN (cs := [_, _, _]) rfl rfl rfl rfl rfl (by exact zLb rfl) rfl ji) ?_)))))))
    refine jb rfl (qG rfl rfl rfl rfl rfl rfl (zY rfl) ji (by rfl) (by exact zLb rfl)) ?_
    refine zg rfl rfl (zn rfl rfl) (zo (zf (zP ?_)))
    exact ⟨.inr rfl, ⟨_, rfl, ⟨_, _, rfl, (jK rfl rfl rfl rfl ji rfl ⟨_, _, rfl, AVle.of (zsG hge (by omega)), ⟨_, _, rfl, AVle.of (zsa hge (by omega)), ⟨_, _, rfl, AVle.of (zsg hge (by omega)), rfl⟩⟩⟩), ⟨_, _, rfl, AVle.refl _, rfl⟩⟩⟩⟩
  ·
   dsimp only
   refine zl (zh (zg rfl rfl (qi rfl rfl rfl) (zo (zf (zl (zx rfl (fun h0 => ?_) (fun h0 => ?_)))))))
   ·
    have hlt : 2 < l.length := by simp at h0; omega
    obtain ⟨hx, hy, hch, hc1, hc2⟩ := za3 (hcp _ (List.getElem_mem hlt)) hat hpl
    refine zC (zf (zl (zB (zl (zh (zg rfl rfl (zi rfl rfl) (zg rfl rfl (zG rfl rfl rfl zbo (by omega) (zaL hlt) yS) (zg rfl rfl (zA rfl rfl rfl zfC) (zg rfl rfl (zn rfl rfl) (zg rfl rfl (zW rfl rfl) (zo ?_)))))))))))
    refine zf (zl (zl ?_))
    refine qY mixed (by kernel_rfl) rfl ?_
    refine zH rfl (zu rfl rfl jJ) (zH rfl (zZ rfl rfl wH (by exact zLb rfl)) (zH rfl (zq rfl rfl) (zH rfl (zi rfl rfl) (zH rfl (zG rfl rfl rfl yJ (by omega) (xI hx) vZ) (zH rfl (zA rfl rfl rfl ty9) (zH rfl (zi rfl rfl) ?_))))))
    refine zH rfl (wC rfl rfl rfl Tryz.underlying9 (by omega) (by rw [Int.toNat_natCast]; exact List.getElem?_eq_getElem hy)) ?_
    refine zH rfl (zi rfl rfl) (zH rfl (zy (av := [_, _, _]) rfl ⟨rfl, rfl, rfl, trivial⟩ (hch ▸ f119 c _ f hc ⟨hc1, hc2⟩ hf)) (jw (zf (zB (zl (zh (zg rfl rfl (qJ rfl rfl rfl) (zg rfl rfl (zn rfl rfl) (zo (zf (zx rfl (fun h1 => ?_) (fun h1 => ?_))))))))))))
    ·
     exfalso; have hq := zdt (c := c) (at' := at') (place := place) (f := f) (n := n.2.2) hlt (by rw [hch]; simpa using h1); have := (hall 2 (by omega)).symm.trans hq; cases this
    ·
     have hn0 : zbk c (chF l[2] at' place) f ≠ 0 := by rw [hch]; simpa using h1
     refine zl (zh (zg rfl rfl (qJ rfl rfl rfl) (zg rfl rfl (zn rfl rfl) (zo (zf (zx rfl (fun h2 => ?_) (fun h2 => ?_)))))))
     ·
      have hwq := kZ (c := c) (at' := at') (place := place) (f := f) (n := n.2.2) hlt (by rw [hch]; simpa using h2)
      have hW := hwq.1
      have hq := hwq.2
      refine zh (zg rfl rfl (zi rfl rfl) (zg rfl rfl (zJ rfl rfl rfl rfl rfl jY (by omega) (by omega)) (zg rfl rfl (zK rfl rfl rfl rfl rfl rfl ty3) (zg rfl rfl (zV rfl rfl rfl ⟨(by omega), (by omega)⟩) (zg rfl rfl (zJ rfl rfl rfl rfl rfl jY (by omega) (by omega)) ?_)))))
      refine jb rfl (qG rfl rfl rfl rfl rfl rfl (jF rfl) ty3 (by rfl) (by exact zLb rfl)) ?_
      refine zo (zD (zf (zl ?_)))
      refine qY mixed (by kernel_rfl) rfl ?_
      refine zH rfl (zi rfl rfl) (zH rfl (zJ rfl rfl rfl rfl rfl jY (by omega) (by omega)) (zH rfl (zK rfl rfl rfl rfl rfl rfl ty3) (zH rfl (zu rfl rfl jJ) (zH rfl (zu rfl rfl jZ) (zH rfl (zA rfl rfl rfl ty3) (zH rfl (qR rfl rfl rfl) (jw (zf (zx rfl (fun h3 => ?_) (fun h3 => ?_))))))))))
      ·
       exfalso; have := hq.symm.trans (hall 2 (by omega)); simp at this h3; omega
      ·
       have hok : True := trivial
       refine zC (zD (zf (zh (zg rfl rfl (zV rfl rfl rfl ⟨(by omega), (by omega)⟩) (zg rfl rfl (zi rfl rfl) (zo ?_))))))
       exact ⟨⟨3, by omega⟩, by dsimp only; omega, (by refine zt (mem' := [.row [[I (n.1 + wP l at' place f 0), I (n.2.1 + wP l at' place f 1), I (n.2.2 + wP l at' place f 2)]], .row [[I 0, I 0, I 0]]]) [(2, I (at' : Int)), (3, I (place : Int)), (4, I f), (5, .pub (.ptr (yc c l))), (6, .pp 0 1 0 0), (10, .pp 1 1 0 0), (15, .pub (qO l)), (16, I (l.length : Int)), (17, I 3)] ?_ ?_; exact ⟨rfl, rfl, rfl, rfl, rfl, rfl, rfl, rfl, rfl, trivial⟩; exact (congrArg (fun z => [PO.row [z], .row [[I 0, I 0, I 0]]]) (by first | rw [hW, Int.add_zero] | rw [hW]; rfl | rw [hW])))⟩
     ·
      have hwq := xe (c := c) (at' := at') (place := place) (f := f) (n := n.2.2) hlt hn0 (by rw [hch]; simpa using h2)
      have hW := hwq.1
      have hq := hwq.2
      refine zC (zD (zf (zl ?_)))
      refine qY mixed (by kernel_rfl) rfl ?_
      refine zH rfl (zi rfl rfl) (zH rfl (zJ rfl rfl rfl rfl rfl jY (by omega) (by omega)) (zH rfl (zK rfl rfl rfl rfl rfl rfl ty3) (zH rfl (zu rfl rfl jJ) (zH rfl (zu rfl rfl jZ) (zH rfl (zA rfl rfl rfl ty3) (zH rfl (qR rfl rfl rfl) (jw (zf (zx rfl (fun h3 => ?_) (fun h3 => ?_))))))))))
      ·
       exfalso; have := hq.symm.trans (hall 2 (by omega)); simp at this h3; omega
      ·
       have hok : True := trivial
       refine zC (zD (zf (zh (zg rfl rfl (zV rfl rfl rfl ⟨(by omega), (by omega)⟩) (zg rfl rfl (zi rfl rfl) (zo ?_))))))
       exact ⟨⟨3, by omega⟩, by dsimp only; omega, (by refine zt (mem' := [.row [[I (n.1 + wP l at' place f 0), I (n.2.1 + wP l at' place f 1), I (n.2.2 + wP l at' place f 2)]], .row [[I 0, I 0, I 0]]]) [(2, I (at' : Int)), (3, I (place : Int)), (4, I f), (5, .pub (.ptr (yc c l))), (6, .pp 0 1 0 0), (10, .pp 1 1 0 0), (15, .pub (qO l)), (16, I (l.length : Int)), (17, I 3)] ?_ ?_; exact ⟨rfl, rfl, rfl, rfl, rfl, rfl, rfl, rfl, rfl, trivial⟩; exact (congrArg (fun z => [PO.row [z], .row [[I 0, I 0, I 0]]]) (by first | rw [hW, Int.add_zero] | rw [hW]; rfl | rw [hW])))⟩
   ·
    have hge : l.length <= 2 := by simp at h0; first | omega | simp [h0]
    refine qp (zL (zL (qw (zf (zl (zh (zg rfl rfl (qN (cs := [_, _, _]) rfl rfl rfl rfl rfl (by exact zLb rfl) rfl ji) ?_)))))))
    refine jb rfl (qG rfl rfl rfl rfl rfl rfl (zY rfl) ji (by rfl) (by exact zLb rfl)) ?_
    refine zg rfl rfl (zn rfl rfl) (zo (zf (zP ?_)))
    exact ⟨.inr rfl, ⟨_, rfl, ⟨_, _, rfl, (jK rfl rfl rfl rfl ji rfl ⟨_, _, rfl, AVle.of (zr8 hge (by omega)), ⟨_, _, rfl, AVle.of (zsK hge (by omega)), ⟨_, _, rfl, AVle.of (zsB hge (by omega)), rfl⟩⟩⟩), ⟨_, _, rfl, AVle.refl _, rfl⟩⟩⟩⟩
  ·
   dsimp only
   refine zl (zh (zg rfl rfl (qi rfl rfl rfl) (zo (zf (zl (zx rfl (fun h0 => ?_) (fun h0 => ?_)))))))
   ·
    exfalso; simp at h0; omega
   ·
    have hge : l.length <= 3 := by simp at h0; first | omega | simp [h0]
    refine qp (zL (zL (qw (zf (zl (zh (zg rfl rfl (qN (cs := [_, _, _]) rfl rfl rfl rfl rfl (by exact zLb rfl) rfl ji) ?_)))))))
    refine jb rfl (qG rfl rfl rfl rfl rfl rfl (zY rfl) ji (by rfl) (by exact zLb rfl)) ?_
    refine zg rfl rfl (zn rfl rfl) (zo (zf (zP ?_)))
    exact ⟨.inr rfl, ⟨_, rfl, ⟨_, _, rfl, (jK rfl rfl rfl rfl ji rfl ⟨_, _, rfl, AVle.of (zr9 hge (by omega)), ⟨_, _, rfl, AVle.of (zsn hge (by omega)), ⟨_, _, rfl, AVle.of (zsS hge (by omega)), rfl⟩⟩⟩), ⟨_, _, rfl, AVle.refl _, rfl⟩⟩⟩⟩
theorem zqG (c : Cod) (l : List (List (List UInt8))) (n : Int × Int × Int) (at' place : Nat) (f : Int) (hc : jA c = true) (hl : l.length <= 3) (hcp : ∀ g ∈ l, jX c g = true) (hat : at' <= c.fields.length) (hpl : place < 5) (hf : 0 <= f /\ f <= 9) (hn : 0 <= n.1 /\ n.1 <= 1000 /\ 0 <= n.2.1 /\ n.2.1 <= 1000 /\ 0 <= n.2.2 /\ n.2.2 <= 1000) (hno : vN c l at' place f n = false) : ACall Tryz.prog G 137 [.agg (yc c l), .agg (eCn n), ei (at' : Int), ei (place : Int), ei f] (.tup [.agg [.top, .top, .top], .v (.bool false)]) := by
 have hb0 := zef l at' place f 0
 have hb1 := zef l at' place f 1
 have hb2 := zef l at' place f 2
 refine zS Tryz.func137 rfl (by kernel_rfl) rfl ?_
 refine zl (zh (zg rfl rfl (jf rfl (zY rfl)) (jb rfl (zqW rfl rfl (zY rfl)) (jb rfl (wJ rfl rfl zi7 rfl rfl) (zg rfl rfl (zn rfl rfl) (zo (zf (zl (zl (zh (zg rfl rfl (zu rfl rfl zjF) ?_)))))))))))
 refine zg rfl rfl (zA rfl rfl rfl zr5) (zg rfl rfl (qh rfl rfl rfl Tryz.underlying26) (zg rfl rfl (zi rfl rfl) (zo (zf (zB ?_)))))
 refine qy (ι := { k : Nat // k < 4 /\ (∀ i, i < k -> zdj n c l at' place f i = true) }) (fun k => match k.1 with | 0 => ⟨Tryz.f137.ntmps, frL [(2, I (at' : Int)), (3, I (place : Int)), (4, I f), (5, .pub (.ptr (yc c l))), (6, .pp 0 1 0 0), (10, .pp 1 1 0 0), (15, .pub (qO l)), (16, I (l.length : Int)), (17, I 0)], [.row [[I n.1, I n.2.1, I n.2.2]], .row [[I 0, I 0, I 0]]]⟩ | 1 => ⟨Tryz.f137.ntmps, frL [(2, I (at' : Int)), (3, I (place : Int)), (4, I f), (5, .pub (.ptr (yc c l))), (6, .pp 0 1 0 0), (10, .pp 1 1 0 0), (15, .pub (qO l)), (16, I (l.length : Int)), (17, I 1)], [.row [[I (n.1 + wP l at' place f 0), I n.2.1, I n.2.2]], .row [[I 0, I 0, I 0]]]⟩ | 2 => ⟨Tryz.f137.ntmps, frL [(2, I (at' : Int)), (3, I (place : Int)), (4, I f), (5, .pub (.ptr (yc c l))), (6, .pp 0 1 0 0), (10, .pp 1 1 0 0), (15, .pub (qO l)), (16, I (l.length : Int)), (17, I 2)], [.row [[I (n.1 + wP l at' place f 0), I (n.2.1 + wP l at' place f 1), I n.2.2]], .row [[I 0, I 0, I 0]]]⟩ | _ => ⟨Tryz.f137.ntmps, frL [(2, I (at' : Int)), (3, I (place : Int)), (4, I f), (5, .pub (.ptr (yc c l))), (6, .pp 0 1 0 0), (10, .pp 1 1 0 0), (15, .pub (qO l)), (16, I (l.length : Int)), (17, I 3)], [.row [[I (n.1 + wP l at' place f 0), I (n.2.1 + wP l at' place f 1), I (n.2.2 + wP l at' place f 2)]], .row [[I 0, I 0, I 0]]]⟩) (fun k => 4 - k.1) (⟨0, by omega, fun i hi => absurd hi (by omega)⟩) ?_ ?_
 ·
  exact zt _ ⟨rfl, rfl, rfl, rfl, rfl, rfl, rfl, (congrArg (fun x : Nat => I (x : Int)) (List.length_map _)), rfl, trivial⟩ (rfl)
 ·
  rintro ⟨k, hk, hinv⟩
  have hk3 : k = 0 ∨ k = 1 ∨ k = 2 ∨ k = 3 := by omega
  rcases hk3 with rfl | rfl | rfl | rfl
  ·
   dsimp only
   refine zl (zh (zg rfl rfl (qi rfl rfl rfl) (zo (zf (zl (zx rfl (fun h0 => ?_) (fun h0 => ?_)))))))
   ·
    have hlt : 0 < l.length := by simp at h0; omega
    obtain ⟨hx, hy, hch, hc1, hc2⟩ := za3 (hcp _ (List.getElem_mem hlt)) hat hpl
    refine zC (zf (zl (zB (zl (zh (zg rfl rfl (zi rfl rfl) (zg rfl rfl (zG rfl rfl rfl zbo (by omega) (zaL hlt) yS) (zg rfl rfl (zA rfl rfl rfl zfC) (zg rfl rfl (zn rfl rfl) (zg rfl rfl (zW rfl rfl) (zo ?_)))))))))))
    refine zf (zl (zl ?_))
    refine qY mixed (by kernel_rfl) rfl ?_
    refine zH rfl (zu rfl rfl jJ) (zH rfl (zZ rfl rfl wH (by exact zLb rfl)) (zH rfl (zq rfl rfl) (zH rfl (zi rfl rfl) (zH rfl (zG rfl rfl rfl yJ (by omega) (xI hx) vZ) (zH rfl (zA rfl rfl rfl ty9) (zH rfl (zi rfl rfl) ?_))))))
    refine zH rfl (wC rfl rfl rfl Tryz.underlying9 (by omega) (by rw [Int.toNat_natCast]; exact List.getElem?_eq_getElem hy)) ?_
    refine zH rfl (zi rfl rfl) (zH rfl (zy (av := [_, _, _]) rfl ⟨rfl, rfl, rfl, trivial⟩ (hch ▸ f119 c _ f hc ⟨hc1, hc2⟩ hf)) (jw (zf (zB (zl (zh (zg rfl rfl (qJ rfl rfl rfl) (zg rfl rfl (zn rfl rfl) (zo (zf (zx rfl (fun h1 => ?_) (fun h1 => ?_))))))))))))
    ·
     refine zl (zh (zg rfl rfl (qN (cs := [_, _, _]) rfl rfl rfl rfl rfl (by exact zLb rfl) rfl ji) ?_))
     refine jb rfl (qG rfl rfl rfl rfl rfl rfl (zY rfl) ji (by rfl) (by exact zLb rfl)) ?_
     refine zg rfl rfl (zn rfl rfl) (zo (zf (zP (qF (zQ (qF (zQ (zQ (qF (zQ ?_))))))))))
     exact ⟨.inr rfl, ⟨_, rfl, ⟨_, _, rfl, (jK rfl rfl rfl rfl ji rfl ⟨_, _, rfl, AVle.top _, ⟨_, _, rfl, AVle.top _, ⟨_, _, rfl, AVle.top _, rfl⟩⟩⟩), ⟨_, _, rfl, AVle.refl _, rfl⟩⟩⟩⟩
    ·
     have hn0 : zbk c (chF l[0] at' place) f ≠ 0 := by rw [hch]; simpa using h1
     refine zl (zh (zg rfl rfl (qJ rfl rfl rfl) (zg rfl rfl (zn rfl rfl) (zo (zf (zx rfl (fun h2 => ?_) (fun h2 => ?_)))))))
     ·
      have hwq := kZ (c := c) (at' := at') (place := place) (f := f) (n := n.1) hlt (by rw [hch]; simpa using h2)
      have hW := hwq.1
      have hq := hwq.2
      refine zh (zg rfl rfl (zi rfl rfl) (zg rfl rfl (zJ rfl rfl rfl rfl rfl jY (by omega) (by omega)) (zg rfl rfl (zK rfl rfl rfl rfl rfl rfl ty3) (zg rfl rfl (zV rfl rfl rfl ⟨(by omega), (by omega)⟩) (zg rfl rfl (zJ rfl rfl rfl rfl rfl jY (by omega) (by omega)) ?_)))))
      refine jb rfl (qG rfl rfl rfl rfl rfl rfl (jF rfl) ty3 (by rfl) (by exact zLb rfl)) ?_
      refine zo (zD (zf (zl ?_)))
      refine qY mixed (by kernel_rfl) rfl ?_
      refine zH rfl (zi rfl rfl) (zH rfl (zJ rfl rfl rfl rfl rfl jY (by omega) (by omega)) (zH rfl (zK rfl rfl rfl rfl rfl rfl ty3) (zH rfl (zu rfl rfl jJ) (zH rfl (zu rfl rfl jZ) (zH rfl (zA rfl rfl rfl ty3) (zH rfl (qR rfl rfl rfl) (jw (zf (zx rfl (fun h3 => ?_) (fun h3 => ?_))))))))))
      ·
       refine zl (zh (zg rfl rfl (qN (cs := [_, _, _]) rfl rfl rfl rfl rfl (by exact zLb rfl) rfl ji) ?_))
       refine jb rfl (qG rfl rfl rfl rfl rfl rfl (zY rfl) ji (by rfl) (by exact zLb rfl)) ?_
       refine zg rfl rfl (zn rfl rfl) (zo (zf (zP (qF (zQ (zQ (qF (zQ ?_))))))))
       exact ⟨.inr rfl, ⟨_, rfl, ⟨_, _, rfl, (jK rfl rfl rfl rfl ji rfl ⟨_, _, rfl, AVle.top _, ⟨_, _, rfl, AVle.top _, ⟨_, _, rfl, AVle.top _, rfl⟩⟩⟩), ⟨_, _, rfl, AVle.refl _, rfl⟩⟩⟩⟩
      ·
       have hok : zdj n c l at' place f 0 = true := by simp only [zdj]; rw [hq]; simpa using h3
       refine zC (zD (zf (zh (zg rfl rfl (zV rfl rfl rfl ⟨(by omega), (by omega)⟩) (zg rfl rfl (zi rfl rfl) (zo ?_))))))
       exact ⟨⟨1, by omega, (fun i hi => by rcases (show i = 0 by omega) with rfl <;> first | exact hok | exact hinv _ (by omega))⟩, by dsimp only; omega, (by refine zt (mem' := [.row [[I (n.1 + wP l at' place f 0), I n.2.1, I n.2.2]], .row [[I 0, I 0, I 0]]]) [(2, I (at' : Int)), (3, I (place : Int)), (4, I f), (5, .pub (.ptr (yc c l))), (6, .pp 0 1 0 0), (10, .pp 1 1 0 0), (15, .pub (qO l)), (16, I (l.length : Int)), (17, I 1)] ?_ ?_; exact ⟨rfl, rfl, rfl, rfl, rfl, rfl, rfl, rfl, rfl, trivial⟩; exact (congrArg (fun z => [PO.row [z], .row [[I 0, I 0, I 0]]]) (by first | rw [hW, Int.add_zero] | rw [hW]; rfl | rw [hW])))⟩
     ·
      have hwq := xe (c := c) (at' := at') (place := place) (f := f) (n := n.1) hlt hn0 (by rw [hch]; simpa using h2)
      have hW := hwq.1
      have hq := hwq.2
      refine zC (zD (zf (zl ?_)))
      refine qY mixed (by kernel_rfl) rfl ?_
      refine zH rfl (zi rfl rfl) (zH rfl (zJ rfl rfl rfl rfl rfl jY (by omega) (by omega)) (zH rfl (zK rfl rfl rfl rfl rfl rfl ty3) (zH rfl (zu rfl rfl jJ) (zH rfl (zu rfl rfl jZ) (zH rfl (zA rfl rfl rfl ty3) (zH rfl (qR rfl rfl rfl) (jw (zf (zx rfl (fun h3 => ?_) (fun h3 => ?_))))))))))
      ·
       refine zl (zh (zg rfl rfl (qN (cs := [_, _, _]) rfl rfl rfl rfl rfl (by exact zLb rfl) rfl ji) ?_))
       refine jb rfl (qG rfl rfl rfl rfl rfl rfl (zY rfl) ji (by rfl) (by exact zLb rfl)) ?_
       refine zg rfl rfl (zn rfl rfl) (zo (zf (zP (qF (zQ (zQ (qF (zQ ?_))))))))
       exact ⟨.inr rfl, ⟨_, rfl, ⟨_, _, rfl, (jK rfl rfl rfl rfl ji rfl ⟨_, _, rfl, AVle.top _, ⟨_, _, rfl, AVle.top _, ⟨_, _, rfl, AVle.top _, rfl⟩⟩⟩), ⟨_, _, rfl, AVle.refl _, rfl⟩⟩⟩⟩
      ·
       have hok : zdj n c l at' place f 0 = true := by simp only [zdj]; rw [hq]; simpa using h3
       refine zC (zD (zf (zh (zg rfl rfl (zV rfl rfl rfl ⟨(by omega), (by omega)⟩) (zg rfl rfl (zi rfl rfl) (zo ?_))))))
       exact ⟨⟨1, by omega, (fun i hi => by rcases (show i = 0 by omega) with rfl <;> first | exact hok | exact hinv _ (by omega))⟩, by dsimp only; omega, (by refine zt (mem' := [.row [[I (n.1 + wP l at' place f 0), I n.2.1, I n.2.2]], .row [[I 0, I 0, I 0]]]) [(2, I (at' : Int)), (3, I (place : Int)), (4, I f), (5, .pub (.ptr (yc c l))), (6, .pp 0 1 0 0), (10, .pp 1 1 0 0), (15, .pub (qO l)), (16, I (l.length : Int)), (17, I 1)] ?_ ?_; exact ⟨rfl, rfl, rfl, rfl, rfl, rfl, rfl, rfl, rfl, trivial⟩; exact (congrArg (fun z => [PO.row [z], .row [[I 0, I 0, I 0]]]) (by first | rw [hW, Int.add_zero] | rw [hW]; rfl | rw [hW])))⟩
   ·
    exfalso; have hge : l.length <= 0 := by simp at h0; first | omega | simp [h0]
    have : vN c l at' place f n = true := by
     have := hinv
     simp only [vN, Bool.and_eq_true]
     exact ⟨zaR (by omega), zaR (by omega), zaR (by omega)⟩
    rw [this] at hno; cases hno
  ·
   dsimp only
   refine zl (zh (zg rfl rfl (qi rfl rfl rfl) (zo (zf (zl (zx rfl (fun h0 => ?_) (fun h0 => ?_)))))))
   ·
    have hlt : 1 < l.length := by simp at h0; omega
    obtain ⟨hx, hy, hch, hc1, hc2⟩ := za3 (hcp _ (List.getElem_mem hlt)) hat hpl
    refine zC (zf (zl (zB (zl (zh (zg rfl rfl (zi rfl rfl) (zg rfl rfl (zG rfl rfl rfl zbo (by omega) (zaL hlt) yS) (zg rfl rfl (zA rfl rfl rfl zfC) (zg rfl rfl (zn rfl rfl) (zg rfl rfl (zW rfl rfl) (zo ?_)))))))))))
    refine zf (zl (zl ?_))
    refine qY mixed (by kernel_rfl) rfl ?_
    refine zH rfl (zu rfl rfl jJ) (zH rfl (zZ rfl rfl wH (by exact zLb rfl)) (zH rfl (zq rfl rfl) (zH rfl (zi rfl rfl) (zH rfl (zG rfl rfl rfl yJ (by omega) (xI hx) vZ) (zH rfl (zA rfl rfl rfl ty9) (zH rfl (zi rfl rfl) ?_))))))
    refine zH rfl (wC rfl rfl rfl Tryz.underlying9 (by omega) (by rw [Int.toNat_natCast]; exact List.getElem?_eq_getElem hy)) ?_
    refine zH rfl (zi rfl rfl) (zH rfl (zy (av := [_, _, _]) rfl ⟨rfl, rfl, rfl, trivial⟩ (hch ▸ f119 c _ f hc ⟨hc1, hc2⟩ hf)) (jw (zf (zB (zl (zh (zg rfl rfl (qJ rfl rfl rfl) (zg rfl rfl (zn rfl rfl) (zo (zf (zx rfl (fun h1 => ?_) (fun h1 => ?_))))))))))))
    ·
     refine zl (zh (zg rfl rfl (qN (cs := [_, _, _]) rfl rfl rfl rfl rfl (by exact zLb rfl) rfl ji) ?_))
     refine jb rfl (qG rfl rfl rfl rfl rfl rfl (zY rfl) ji (by rfl) (by exact zLb rfl)) ?_
     refine zg rfl rfl (zn rfl rfl) (zo (zf (zP (qF (zQ (qF (zQ (zQ (qF (zQ ?_))))))))))
     exact ⟨.inr rfl, ⟨_, rfl, ⟨_, _, rfl, (jK rfl rfl rfl rfl ji rfl ⟨_, _, rfl, AVle.top _, ⟨_, _, rfl, AVle.top _, ⟨_, _, rfl, AVle.top _, rfl⟩⟩⟩), ⟨_, _, rfl, AVle.refl _, rfl⟩⟩⟩⟩
    ·
     have hn0 : zbk c (chF l[1] at' place) f ≠ 0 := by rw [hch]; simpa using h1
     refine zl (zh (zg rfl rfl (qJ rfl rfl rfl) (zg rfl rfl (zn rfl rfl) (zo (zf (zx rfl (fun h2 => ?_) (fun h2 => ?_)))))))
     ·
      have hwq := kZ (c := c) (at' := at') (place := place) (f := f) (n := n.2.1) hlt (by rw [hch]; simpa using h2)
      have hW := hwq.1
      have hq := hwq.2
      refine zh (zg rfl rfl (zi rfl rfl) (zg rfl rfl (zJ rfl rfl rfl rfl rfl jY (by omega) (by omega)) (zg rfl rfl (zK rfl rfl rfl rfl rfl rfl ty3) (zg rfl rfl (zV rfl rfl rfl ⟨(by omega), (by omega)⟩) (zg rfl rfl (zJ rfl rfl rfl rfl rfl jY (by omega) (by omega)) ?_)))))
      refine jb rfl (qG rfl rfl rfl rfl rfl rfl (jF rfl) ty3 (by rfl) (by exact zLb rfl)) ?_
      refine zo (zD (zf (zl ?_)))
      refine qY mixed (by kernel_rfl) rfl ?_
      refine zH rfl (zi rfl rfl) (zH rfl (zJ rfl rfl rfl rfl rfl jY (by omega) (by omega)) (zH rfl (zK rfl rfl rfl rfl rfl rfl ty3) (zH rfl (zu rfl rfl jJ) (zH rfl (zu rfl rfl jZ) (zH rfl (zA rfl rfl rfl ty3) (zH rfl (qR rfl rfl rfl) (jw (zf (zx rfl (fun h3 => ?_) (fun h3 => ?_))))))))))
      ·
       refine zl (zh (zg rfl rfl (qN (cs := [_, _, _]) rfl rfl rfl rfl rfl (by exact zLb rfl) rfl ji) ?_))
       refine jb rfl (qG rfl rfl rfl rfl rfl rfl (zY rfl) ji (by rfl) (by exact zLb rfl)) ?_
       refine zg rfl rfl (zn rfl rfl) (zo (zf (zP (qF (zQ (zQ (qF (zQ ?_))))))))
       exact ⟨.inr rfl, ⟨_, rfl, ⟨_, _, rfl, (jK rfl rfl rfl rfl ji rfl ⟨_, _, rfl, AVle.top _, ⟨_, _, rfl, AVle.top _, ⟨_, _, rfl, AVle.top _, rfl⟩⟩⟩), ⟨_, _, rfl, AVle.refl _, rfl⟩⟩⟩⟩
      ·
       have hok : zdj n c l at' place f 1 = true := by simp only [zdj]; rw [hq]; simpa using h3
       refine zC (zD (zf (zh (zg rfl rfl (zV rfl rfl rfl ⟨(by omega), (by omega)⟩) (zg rfl rfl (zi rfl rfl) (zo ?_))))))
       exact ⟨⟨2, by omega, (fun i hi => by rcases (show i = 0 ∨ i = 1 by omega) with rfl | rfl <;> first | exact hok | exact hinv _ (by omega))⟩, by dsimp only; omega, (by refine zt (mem' := [.row [[I (n.1 + wP l at' place f 0), I (n.2.1 + wP l at' place f 1), I n.2.2]], .row [[I 0, I 0, I 0]]]) [(2, I (at' : Int)), (3, I (place : Int)), (4, I f), (5, .pub (.ptr (yc c l))), (6, .pp 0 1 0 0), (10, .pp 1 1 0 0), (15, .pub (qO l)), (16, I (l.length : Int)), (17, I 2)] ?_ ?_; exact ⟨rfl, rfl, rfl, rfl, rfl, rfl, rfl, rfl, rfl, trivial⟩; exact (congrArg (fun z => [PO.row [z], .row [[I 0, I 0, I 0]]]) (by first | rw [hW, Int.add_zero] | rw [hW]; rfl | rw [hW])))⟩
     ·
      have hwq := xe (c := c) (at' := at') (place := place) (f := f) (n := n.2.1) hlt hn0 (by rw [hch]; simpa using h2)
      have hW := hwq.1
      have hq := hwq.2
      refine zC (zD (zf (zl ?_)))
      refine qY mixed (by kernel_rfl) rfl ?_
      refine zH rfl (zi rfl rfl) (zH rfl (zJ rfl rfl rfl rfl rfl jY (by omega) (by omega)) (zH rfl (zK rfl rfl rfl rfl rfl rfl ty3) (zH rfl (zu rfl rfl jJ) (zH rfl (zu rfl rfl jZ) (zH rfl (zA rfl rfl rfl ty3) (zH rfl (qR rfl rfl rfl) (jw (zf (zx rfl (fun h3 => ?_) (fun h3 => ?_))))))))))
      ·
       refine zl (zh (zg rfl rfl (qN (cs := [_, _, _]) rfl rfl rfl rfl rfl (by exact zLb rfl) rfl ji) ?_))
       refine jb rfl (qG rfl rfl rfl rfl rfl rfl (zY rfl) ji (by rfl) (by exact zLb rfl)) ?_
       refine zg rfl rfl (zn rfl rfl) (zo (zf (zP (qF (zQ (zQ (qF (zQ ?_))))))))
       exact ⟨.inr rfl, ⟨_, rfl, ⟨_, _, rfl, (jK rfl rfl rfl rfl ji rfl ⟨_, _, rfl, AVle.top _, ⟨_, _, rfl, AVle.top _, ⟨_, _, rfl, AVle.top _, rfl⟩⟩⟩), ⟨_, _, rfl, AVle.refl _, rfl⟩⟩⟩⟩
      ·
       have hok : zdj n c l at' place f 1 = true := by simp only [zdj]; rw [hq]; simpa using h3
       refine zC (zD (zf (zh (zg rfl rfl (zV rfl rfl rfl ⟨(by omega), (by omega)⟩) (zg rfl rfl (zi rfl rfl) (zo ?_))))))
       exact ⟨⟨2, by omega, (fun i hi => by rcases (show i = 0 ∨ i = 1 by omega) with rfl | rfl <;> first | exact hok | exact hinv _ (by omega))⟩, by dsimp only; omega, (by refine zt (mem' := [.row [[I (n.1 + wP l at' place f 0), I (n.2.1 + wP l at' place f 1), I n.2.2]], .row [[I 0, I 0, I 0]]]) [(2, I (at' : Int)), (3, I (place : Int)), (4, I f), (5, .pub (.ptr (yc c l))), (6, .pp 0 1 0 0), (10, .pp 1 1 0 0), (15, .pub (qO l)), (16, I (l.length : Int)), (17, I 2)] ?_ ?_; exact ⟨rfl, rfl, rfl, rfl, rfl, rfl, rfl, rfl, rfl, trivial⟩; exact (congrArg (fun z => [PO.row [z], .row [[I 0, I 0, I 0]]]) (by first | rw [hW, Int.add_zero] | rw [hW]; rfl | rw [hW])))⟩
   ·
    exfalso; have hge : l.length <= 1 := by simp at h0; first | omega | simp [h0]
    have : vN c l at' place f n = true := by
     have := hinv
     simp only [vN, Bool.and_eq_true]
     exact ⟨hinv 0 (by omega), zaR (by omega), zaR (by omega)⟩
    rw [this] at hno; cases hno
  ·
   dsimp only
   refine zl (zh (zg rfl rfl (qi rfl rfl rfl) (zo (zf (zl (zx rfl (fun h0 => ?_) (fun h0 => ?_)))))))
   ·
    have hlt : 2 < l.length := by simp at h0; omega
    obtain ⟨hx, hy, hch, hc1, hc2⟩ := za3 (hcp _ (List.getElem_mem hlt)) hat hpl
    refine zC (zf (zl (zB (zl (zh (zg rfl rfl (zi rfl rfl) (zg rfl rfl (zG rfl rfl rfl zbo (by omega) (zaL hlt) yS) (zg rfl rfl (zA rfl rfl rfl zfC) (zg rfl rfl (zn rfl rfl) (zg rfl rfl (zW rfl rfl) (zo ?_)))))))))))
    refine zf (zl (zl ?_))
    refine qY mixed (by kernel_rfl) rfl ?_
    refine zH rfl (zu rfl rfl jJ) (zH rfl (zZ rfl rfl wH (by exact zLb rfl)) (zH rfl (zq rfl rfl) (zH rfl (zi rfl rfl) (zH rfl (zG rfl rfl rfl yJ (by omega) (xI hx) vZ) (zH rfl (zA rfl rfl rfl ty9) (zH rfl (zi rfl rfl) ?_))))))
    refine zH rfl (wC rfl rfl rfl Tryz.underlying9 (by omega) (by rw [Int.toNat_natCast]; exact List.getElem?_eq_getElem hy)) ?_
    refine zH rfl (zi rfl rfl) (zH rfl (zy (av := [_, _, _]) rfl ⟨rfl, rfl, rfl, trivial⟩ (hch ▸ f119 c _ f hc ⟨hc1, hc2⟩ hf)) (jw (zf (zB (zl (zh (zg rfl rfl (qJ rfl rfl rfl) (zg rfl rfl (zn rfl rfl) (zo (zf (zx rfl (fun h1 => ?_) (fun h1 => ?_))))))))))))
    ·
     refine zl (zh (zg rfl rfl (qN (cs := [_, _, _]) rfl rfl rfl rfl rfl (by exact zLb rfl) rfl ji) ?_))
     refine jb rfl (qG rfl rfl rfl rfl rfl rfl (zY rfl) ji (by rfl) (by exact zLb rfl)) ?_
     refine zg rfl rfl (zn rfl rfl) (zo (zf (zP (qF (zQ (qF (zQ (zQ (qF (zQ ?_))))))))))
     exact ⟨.inr rfl, ⟨_, rfl, ⟨_, _, rfl, (jK rfl rfl rfl rfl ji rfl ⟨_, _, rfl, AVle.top _, ⟨_, _, rfl, AVle.top _, ⟨_, _, rfl, AVle.top _, rfl⟩⟩⟩), ⟨_, _, rfl, AVle.refl _, rfl⟩⟩⟩⟩
    ·
     have hn0 : zbk c (chF l[2] at' place) f ≠ 0 := by rw [hch]; simpa using h1
     refine zl (zh (zg rfl rfl (qJ rfl rfl rfl) (zg rfl rfl (zn rfl rfl) (zo (zf (zx rfl (fun h2 => ?_) (fun h2 => ?_)))))))
     ·
      have hwq := kZ (c := c) (at' := at') (place := place) (f := f) (n := n.2.2) hlt (by rw [hch]; simpa using h2)
      have hW := hwq.1
      have hq := hwq.2
      refine zh (zg rfl rfl (zi rfl rfl) (zg rfl rfl (zJ rfl rfl rfl rfl rfl jY (by omega) (by omega)) (zg rfl rfl (zK rfl rfl rfl rfl rfl rfl ty3) (zg rfl rfl (zV rfl rfl rfl ⟨(by omega), (by omega)⟩) (zg rfl rfl (zJ rfl rfl rfl rfl rfl jY (by omega) (by omega)) ?_)))))
      refine jb rfl (qG rfl rfl rfl rfl rfl rfl (jF rfl) ty3 (by rfl) (by exact zLb rfl)) ?_
      refine zo (zD (zf (zl ?_)))
      refine qY mixed (by kernel_rfl) rfl ?_
      refine zH rfl (zi rfl rfl) (zH rfl (zJ rfl rfl rfl rfl rfl jY (by omega) (by omega)) (zH rfl (zK rfl rfl rfl rfl rfl rfl ty3) (zH rfl (zu rfl rfl jJ) (zH rfl (zu rfl rfl jZ) (zH rfl (zA rfl rfl rfl ty3) (zH rfl (qR rfl rfl rfl) (jw (zf (zx rfl (fun h3 => ?_) (fun h3 => ?_))))))))))
      ·
       refine zl (zh (zg rfl rfl (qN (cs := [_, _, _]) rfl rfl rfl rfl rfl (by exact zLb rfl) rfl ji) ?_))
       refine jb rfl (qG rfl rfl rfl rfl rfl rfl (zY rfl) ji (by rfl) (by exact zLb rfl)) ?_
       refine zg rfl rfl (zn rfl rfl) (zo (zf (zP (qF (zQ (zQ (qF (zQ ?_))))))))
       exact ⟨.inr rfl, ⟨_, rfl, ⟨_, _, rfl, (jK rfl rfl rfl rfl ji rfl ⟨_, _, rfl, AVle.top _, ⟨_, _, rfl, AVle.top _, ⟨_, _, rfl, AVle.top _, rfl⟩⟩⟩), ⟨_, _, rfl, AVle.refl _, rfl⟩⟩⟩⟩
      ·
       have hok : zdj n c l at' place f 2 = true := by simp only [zdj]; rw [hq]; simpa using h3
       refine zC (zD (zf (zh (zg rfl rfl (zV rfl rfl rfl ⟨(by omega), (by omega)⟩) (zg rfl rfl (zi rfl rfl) (zo ?_))))))
       exact ⟨⟨3, by omega, (fun i hi => by rcases (show i = 0 ∨ i = 1 ∨ i = 2 by omega) with rfl | rfl | rfl <;> first | exact hok | exact hinv _ (by omega))⟩, by dsimp only; omega, (by refine zt (mem' := [.row [[I (n.1 + wP l at' place f 0), I (n.2.1 + wP l at' place f 1), I (n.2.2 + wP l at' place f 2)]], .row [[I 0, I 0, I 0]]]) [(2, I (at' : Int)), (3, I (place : Int)), (4, I f), (5, .pub (.ptr (yc c l))), (6, .pp 0 1 0 0), (10, .pp 1 1 0 0), (15, .pub (qO l)), (16, I (l.length : Int)), (17, I 3)] ?_ ?_; exact ⟨rfl, rfl, rfl, rfl, rfl, rfl, rfl, rfl, rfl, trivial⟩; exact (congrArg (fun z => [PO.row [z], .row [[I 0, I 0, I 0]]]) (by first | rw [hW, Int.add_zero] | rw [hW]; rfl | rw [hW])))⟩
     ·
      have hwq := xe (c := c) (at' := at') (place := place) (f := f) (n := n.2.2) hlt hn0 (by rw [hch]; simpa using h2)
      have hW := hwq.1
      have hq := hwq.2
      refine zC (zD (zf (zl ?_)))
      refine qY mixed (by kernel_rfl) rfl ?_
      refine zH rfl (zi rfl rfl) (zH rfl (zJ rfl rfl rfl rfl rfl jY (by omega) (by omega)) (zH rfl (zK rfl rfl rfl rfl rfl rfl ty3) (zH rfl (zu rfl rfl jJ) (zH rfl (zu rfl rfl jZ) (zH rfl (zA rfl rfl rfl ty3) (zH rfl (qR rfl rfl rfl) (jw (zf (zx rfl (fun h3 => ?_) (fun h3 => ?_))))))))))
      ·
       refine zl (zh (zg rfl rfl (qN (cs := [_, _, _]) rfl rfl rfl rfl rfl (by exact zLb rfl) rfl ji) ?_))
       refine jb rfl (qG rfl rfl rfl rfl rfl rfl (zY rfl) ji (by rfl) (by exact zLb rfl)) ?_
       refine zg rfl rfl (zn rfl rfl) (zo (zf (zP (qF (zQ (zQ (qF (zQ ?_))))))))
       exact ⟨.inr rfl, ⟨_, rfl, ⟨_, _, rfl, (jK rfl rfl rfl rfl ji rfl ⟨_, _, rfl, AVle.top _, ⟨_, _, rfl, AVle.top _, ⟨_, _, rfl, AVle.top _, rfl⟩⟩⟩), ⟨_, _, rfl, AVle.refl _, rfl⟩⟩⟩⟩
      ·
       have hok : zdj n c l at' place f 2 = true := by simp only [zdj]; rw [hq]; simpa using h3
       refine zC (zD (zf (zh (zg rfl rfl (zV rfl rfl rfl ⟨(by omega), (by omega)⟩) (zg rfl rfl (zi rfl rfl) (zo ?_))))))
       exact ⟨⟨3, by omega, (fun i hi => by rcases (show i = 0 ∨ i = 1 ∨ i = 2 by omega) with rfl | rfl | rfl <;> first | exact hok | exact hinv _ (by omega))⟩, by dsimp only; omega, (by refine zt (mem' := [.row [[I (n.1 + wP l at' place f 0), I (n.2.1 + wP l at' place f 1), I (n.2.2 + wP l at' place f 2)]], .row [[I 0, I 0, I 0]]]) [(2, I (at' : Int)), (3, I (place : Int)), (4, I f), (5, .pub (.ptr (yc c l))), (6, .pp 0 1 0 0), (10, .pp 1 1 0 0), (15, .pub (qO l)), (16, I (l.length : Int)), (17, I 3)] ?_ ?_; exact ⟨rfl, rfl, rfl, rfl, rfl, rfl, rfl, rfl, rfl, trivial⟩; exact (congrArg (fun z => [PO.row [z], .row [[I 0, I 0, I 0]]]) (by first | rw [hW, Int.add_zero] | rw [hW]; rfl | rw [hW])))⟩
   ·
    exfalso; have hge : l.length <= 2 := by simp at h0; first | omega | simp [h0]
    have : vN c l at' place f n = true := by
     have := hinv
     simp only [vN, Bool.and_eq_true]
     exact ⟨hinv 0 (by omega), hinv 1 (by omega), zaR (by omega)⟩
    rw [this] at hno; cases hno
  ·
   dsimp only
   refine zl (zh (zg rfl rfl (qi rfl rfl rfl) (zo (zf (zl (zx rfl (fun h0 => ?_) (fun h0 => ?_)))))))
   ·
    exfalso; simp at h0; omega
   ·
    exfalso; have hge : l.length <= 3 := by simp at h0; first | omega | simp [h0]
    have : vN c l at' place f n = true := by
     have := hinv
     simp only [vN, Bool.and_eq_true]
     exact ⟨hinv 0 (by omega), hinv 1 (by omega), hinv 2 (by omega)⟩
    rw [this] at hno; cases hno
end Go.Av
end
section
namespace Go.Av
open Go.Proofs
set_option maxRecDepth 100000
set_option maxHeartbeats 1000000
variable {G : Glob}
theorem xJ : tyIs Tryz.prog 134 true 4 = true := by kernel_rfl
theorem zrJ (b : Bool) : b = false ∨ b = true := by cases b <;> simp
def plX (c : Cod) (l : List (List (List UInt8))) (at' place : Nat) (f : Int) (n : Int × Int × Int) (x : AV) : AV := if vN c l at' place f n then x else .top
theorem f137 (c : Cod) (l : List (List (List UInt8))) (n : Int × Int × Int) (at' place : Nat) (f : Int) (hc : jA c = true) (hl : l.length <= 3) (hcp : ∀ g ∈ l, jX c g = true) (hat : at' <= c.fields.length) (hpl : place < 5) (hf : 0 <= f /\ f <= 9) (hn : 0 <= n.1 /\ n.1 <= 1000 /\ 0 <= n.2.1 /\ n.2.1 <= 1000 /\ 0 <= n.2.2 /\ n.2.2 <= 1000) : ACall Tryz.prog G 137 [.agg (yc c l), .agg (eCn n), ei (at' : Int), ei (place : Int), ei f] (.tup [.agg [plX c l at' place f n (ei (plN l at' place f n).1), plX c l at' place f n (ei (plN l at' place f n).2.1), plX c l at' place f n (ei (plN l at' place f n).2.2)], .v (.bool (vN c l at' place f n))]) := by
 cases h : vN c l at' place f n with
 | true =>
  have := zpR (G := G) c l n at' place f hc hl hcp hat hpl hf hn h
  simp only [plX, h, if_true]
  exact this
 | false =>
  have := zqG (G := G) c l n at' place f hc hl hcp hat hpl hf hn h
  simp only [plX, h, Bool.false_eq_true, if_false]
  exact this
def zfo (f : Nat -> Bool) (k : Nat) : Nat := ((List.range k).filter f).length
theorem zgP (f : Nat -> Bool) (k : Nat) : zfo f (k + 1) = if f k then zfo f k + 1 else zfo f k := by
 unfold zfo
 rw [List.range_succ, List.filter_append]
 cases h : f k <;> simp [h]
theorem zmZ {f : Nat -> Bool} : ∀ {n k : Nat}, k < n -> f k = true -> ((List.range n).filter f)[zfo f k]? = some k := by
 intro n
 induction n with
 | zero => intro k h; omega
 | succ n ih =>
  intro k hk hf
  rw [List.range_succ, List.filter_append]
  by_cases h : k < n
  ·
   rw [List.getElem?_append_left]
   ·
    exact ih h hf
   ·
    have := ih h hf
    exact (zLg this).1
  ·
   have : k = n := by omega
   subst this
   rw [List.getElem?_append_right (by unfold zfo; omega)]
   simp [zfo, hf]
theorem zla {P : Program} {C : Cx P G} {ph : Ph} {st st' : ASt} {Q : Exit -> Ph -> ASt -> Prop} (hw : Weak st st') {c : Code} (h : vY C c ph st' Q) : vY C c ph st Q := fun w0 ok0 a w hc hs => h w0 ok0 a w hc (hw w0 ok0 a w hs)
def zaA (c : Cod) (l : List (List (List UInt8))) (at' place : Nat) (n : Int × Int × Int) : List Nat := (List.range 10).filter fun f => vN c l at' place (f : Int) n
def zmy (c : Cod) (l : List (List (List UInt8))) (at' place : Nat) (n : Int × Int × Int) : List (List AV) := (zaA c l at' place n).map fun (f : Nat) => [ei (f : Int), .agg (eCn (plN l at' place (f : Int) n))]
theorem zqz {c : Cod} {l : List (List (List UInt8))} {at' place : Nat} {n : Int × Int × Int} {k : Nat} (hk : k < 10) (hb : vN c l at' place (k : Int) n = true) : (zmy c l at' place n)[zfo (fun f => vN c l at' place (f : Int) n) k]? = some [ei (k : Int), .agg (eCn (plN l at' place (k : Int) n))] := by
 unfold zmy zaA
 rw [List.getElem?_map, zmZ (f := fun f => vN c l at' place (f : Int) n) hk hb]
 rfl
theorem znJ {c : Cod} {l : List (List (List UInt8))} {at' place : Nat} {n : Int × Int × Int} : (zmy c l at' place n).length = zfo (fun f => vN c l at' place (f : Int) n) 10 := by simp [zmy, zaA, zfo]
theorem zn6 {c : Cod} {l : List (List (List UInt8))} {at' place : Nat} {f : Int} {n : Int × Int × Int} (h : vN c l at' place f n = true) : [plX c l at' place f n (ei (plN l at' place f n).1), plX c l at' place f n (ei (plN l at' place f n).2.1), plX c l at' place f n (ei (plN l at' place f n).2.2)] = eCn (plN l at' place f n) := by
 simp only [plX, h, if_true]; rfl
theorem zsR (c : Cod) (l : List (List (List UInt8))) (n : Int × Int × Int) (at' place : Nat) (hc : jA c = true) (hl : l.length <= 3) (hcp : ∀ g ∈ l, jX c g = true) (hat : at' <= c.fields.length) (hpl : place < 5) (hn : 0 <= n.1 /\ n.1 <= 1000 /\ 0 <= n.2.1 /\ n.2.1 <= 1000 /\ 0 <= n.2.2 /\ n.2.2 <= 1000) : zlr Tryz.prog G 166 [] [.ptr (yc c l), .ptr (eCn n), .ptr [ei (at' : Int)], .ptr [ei (place : Int)]] (zmy c l at' place n) := by
 refine zp5 (qs := (zmy c l at' place n)) Tryz.func166 rfl (by kernel_rfl) rfl rfl (fun C hC => ?_)
 refine zcv ?_
 refine zgy ?_
 refine zh (zg rfl rfl (zi rfl rfl) (zo ?_))
 refine vT ?_
 refine ziI ?_
 refine zp1 (ι := { k : Nat // k <= 10 }) (fun k => ⟨Tryz.f166.ntmps, frL [(0, .pub (.v (.func (.yield C.l) #[] #[]))), (1, .pub (.ptr (yc c l))), (2, .pub (.ptr (eCn n))), (3, .pub (.ptr [ei (at' : Int)])), (4, .pub (.ptr [ei (place : Int)])), (9, I (k.1 : Int))], []⟩) (fun k => .on (zfo (fun f => vN c l at' place (f : Int) n) k.1)) (fun k => 10 - k.1) (⟨0, by omega⟩) rfl ?_ ?_
 ·
  exact zt _ ⟨rfl, rfl, rfl, rfl, rfl, rfl, trivial⟩ (rfl)
 ·
  rintro ⟨k, hk⟩
  dsimp only
  refine zcv ?_
  refine zgy ?_
  refine zh (zg rfl rfl (qi rfl rfl rfl) (zo ?_))
  refine vT ?_
  refine zcv ?_
  refine zes rfl (fun h0 => ?_) (fun h0 => ?_)
  ·
   have hlt : k < 10 := by simp at h0; omega
   refine zhp ?_
   refine vT ?_
   refine zcv ?_
   refine ziI ?_
   refine zcv ?_
   refine zgy ?_
   refine zh (zg rfl rfl (zi rfl rfl) (zg rfl rfl (zn rfl rfl) (zo ?_)))
   refine vT ?_
   refine zcv ?_
   refine zgy ?_
   refine zh (zg rfl rfl (zZ rfl rfl xJ (by exact zLb rfl)) (zg rfl rfl (zZ rfl rfl ji (by exact zLb rfl)) (zg rfl rfl (zA rfl rfl rfl ty3) (zg rfl rfl (zA rfl rfl rfl ty3) (zg rfl rfl (zi rfl rfl) (zg rfl rfl (zy (av := [_, _, _, _, _]) rfl ⟨rfl, rfl, rfl, rfl, rfl, trivial⟩ (f137 c l n at' place (k : Int) hc hl hcp hat hpl (by omega) hn)) (zg rfl rfl (zq rfl rfl) (zg rfl rfl (zN rfl rfl rfl) (zg rfl rfl (zN rfl rfl rfl) ?_)))))))))
   refine vI  rfl rfl rfl rfl rfl rfl rfl zi7 ji rfl (by rfl) (zY rfl) rfl ?_
   refine zg rfl rfl (zn rfl rfl) (zo ?_)
   refine vT ?_
   refine zcv ?_
   refine Or.elim (zrJ (vN c l at' place (k : Int) n)) (fun hb => ?_) (fun hb => ?_)
   ·
    refine zla (zt (mem' := []) [(0, .pub (.v (.func (.yield C.l) #[] #[]))), (1, .pub (.ptr (yc c l))), (2, .pub (.ptr (eCn n))), (3, .pub (.ptr [ei (at' : Int)])), (4, .pub (.ptr [ei (place : Int)])), (6, I (k : Int)), (8, B false), (9, I (k : Int))] ⟨rfl, rfl, rfl, rfl, rfl, rfl, congrArg B hb, rfl, trivial⟩ rfl) ?_
    refine zgf ?_
    refine zjW rfl rfl (zi rfl rfl) ?_
    refine zjW rfl rfl (zi rfl rfl) ?_
    refine yR (x := .pub .top) rfl rfl rfl (fun h => absurd h (by decide)) ?_
    refine yR (x := .pub .top) rfl rfl rfl (fun h => absurd h (by decide)) ?_
    refine yR (x := .pub .top) rfl rfl rfl (fun h => absurd h (by decide)) ?_
    refine zi6 (q := []) (c := false) rfl rfl rfl rfl (fun h => absurd h (by decide)) (fun h => absurd h (by decide)) (fun h => absurd h (by decide)) rfl rfl rfl rfl rfl (fun _ => ?_) (fun h => absurd h (by decide)) (fun h => absurd h (by decide))
    refine yR (x := .pub .top) rfl rfl rfl (fun h => absurd h (by decide)) ?_
    refine zjW rfl rfl (zU rfl rfl (fun h => absurd h (by decide)) (fun _ => rfl)) ?_
    refine zkH ?_
    refine vT ?_
    refine zes (b := false) rfl (fun h => absurd h (by decide)) (fun _ => ?_)
    refine zhp ?_
    refine zgg ?_
    refine vT ?_
    refine zgy ?_
    refine zh (zg rfl rfl (zV rfl rfl rfl ⟨(by omega), (by omega)⟩) (zg rfl rfl (zi rfl rfl) (zo ?_)))
    exact ⟨⟨k + 1, by omega⟩, by dsimp only; omega, by simp only [zgP, hb]; rfl, zt _ ⟨rfl, rfl, rfl, rfl, rfl, rfl, trivial⟩ rfl⟩
   ·
    refine zla (zt (mem' := []) [(0, .pub (.v (.func (.yield C.l) #[] #[]))), (1, .pub (.ptr (yc c l))), (2, .pub (.ptr (eCn n))), (3, .pub (.ptr [ei (at' : Int)])), (4, .pub (.ptr [ei (place : Int)])), (6, I (k : Int)), (7, .pub (.ptr (eCn (plN l at' place (k : Int) n)))), (8, B true), (9, I (k : Int))] ⟨rfl, rfl, rfl, rfl, rfl, rfl, (congrArg (fun z => EV.pub (.ptr z)) (zn6 hb)), congrArg B hb, rfl, trivial⟩ rfl) ?_
    refine zgf ?_
    refine zjW rfl rfl (zi rfl rfl) ?_
    refine zjW rfl rfl (zi rfl rfl) ?_
    refine yR rfl rfl rfl (fun _ => zi rfl rfl) ?_
    refine yR rfl rfl rfl (fun _ => zi rfl rfl) ?_
    refine yR rfl rfl rfl (fun _ => zZ rfl rfl ji (by exact zLb rfl)) ?_
    refine zi6 (q := [ei (k : Int), .agg (eCn (plN l at' place (k : Int) n))]) (c := true) rfl rfl rfl rfl (fun _ => rfl) (fun _ => rfl) (fun _ => by rw [hC]; exact zqz (by omega) hb) rfl rfl rfl rfl rfl (fun h => absurd h (by decide)) (fun _ => ?_) (fun _ => ?_)
    ·
     refine yR rfl rfl rfl (fun _ => je rfl rfl) ?_
     refine zjW rfl rfl (zU rfl rfl (fun _ => rfl) (fun h => absurd h (by decide))) ?_
     refine zkH ?_
     refine vT ?_
     refine zes (b := false) rfl (fun h => absurd h (by decide)) (fun _ => ?_)
     refine zhp ?_
     refine zgg ?_
     refine vT ?_
     refine zgy ?_
     refine zh (zg rfl rfl (zV rfl rfl rfl ⟨(by omega), (by omega)⟩) (zg rfl rfl (zi rfl rfl) (zo ?_)))
     exact ⟨⟨k + 1, by omega⟩, by dsimp only; omega, by simp only [zgP, hb]; rfl, zt _ ⟨rfl, rfl, rfl, rfl, rfl, rfl, trivial⟩ rfl⟩
    ·
     refine yR rfl rfl rfl (fun _ => je rfl rfl) ?_
     refine zjW rfl rfl (zU rfl rfl (fun _ => rfl) (fun h => absurd h (by decide))) ?_
     refine zkH ?_
     refine vT ?_
     refine zes (b := true) rfl (fun _ => ?_) (fun h => absurd h (by decide))
     refine zrT ?_
     refine zo1 ?_
     refine zoe ?_
     refine zoe ?_
     refine zo1 ?_
     exact ⟨.inr rfl, rfl, .inr ⟨_, rfl⟩⟩
  ·
   have hge : 10 <= k := by simp at h0; omega
   refine zpr ?_
   refine zlv ?_
   refine zlv ?_
   refine zqj ?_
   exact ⟨.inl rfl, rfl, .inl (by rw [znJ, show 10 = k from by omega])⟩
theorem f138 (c : Cod) (l : List (List (List UInt8))) (n : Int × Int × Int) (at' place : Int) : ACall Tryz.prog G 138 [.agg (yc c l), .agg (eCn n), ei at', ei place] (.fn 166 [] [.ptr (yc c l), .ptr (eCn n), .ptr [ei at'], .ptr [ei place]]) := by
 refine zS Tryz.func138 rfl (by kernel_rfl) rfl ?_
 refine zl (zh (zg rfl rfl (jf rfl (zY rfl)) (zg rfl rfl (jf rfl (zY rfl)) (zg rfl rfl (jf (cs := [_]) rfl (jF rfl)) (zg rfl rfl (jf (cs := [_]) rfl (jF rfl)) (zg rfl rfl (zn rfl rfl) (zo (zf (zl (zh (zg rfl rfl (zcA (fs := []) (cs := [_, _, _, _]) rfl rfl rfl) ?_)))))))))))
 refine zg rfl rfl (zW rfl rfl) (zo (zf (zP ?_)))
 exact ⟨.inr rfl, AVle.refl _⟩
end Go.Av
end
