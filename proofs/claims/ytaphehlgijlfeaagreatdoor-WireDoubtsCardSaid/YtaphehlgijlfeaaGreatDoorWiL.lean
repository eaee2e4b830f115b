
import Derived.Test.YtaphehlgijlfeaaGreatDoorWiJ
import Derived.Test.YtaphehlgijlfeaaGreatDoorPlatE
set_option linter.unusedVariables false
set_option linter.unusedSimpArgs false
section
namespace Go.Av
open Go.Proofs
set_option maxRecDepth 100000
set_option maxHeartbeats 1000000
variable {G : Glob}
theorem zi3 : (Tryz.prog.info? 185).bind (·.zero) = some (.agg #[.int .i64 0, .int .i64 0, .int .i64 0]) := by kernel_rfl
theorem zjm : fldIs Tryz.prog 134 1 3 = true := by kernel_rfl
theorem zsX : tyIs Tryz.prog 26 false 1 = true := by kernel_rfl
theorem zbT : zaF Tryz.prog 26 1 = true := by kernel_rfl
theorem zfE : tyIs Tryz.prog 34 false 1 = true := by kernel_rfl
theorem jK : fldIs Tryz.prog 134 0 0 = true := by kernel_rfl
theorem jZ : zgu Tryz.prog 185 3 1 = true := by kernel_rfl
theorem jh : tyIs Tryz.prog 185 true 3 = true := by kernel_rfl
def yc (c : Cod) (l : List (List (List UInt8))) : List AV := [.sl (c.fields.map ye), zO c.turns, .v (.int .i64 c.most), qN l]
def chF (g : List (List UInt8)) (at' place : Nat) : Int := (((g.getD at' []).getD place 0).toNat : Int)
theorem za8 {l : List (List (List UInt8))} {k : Nat} (h : k < l.length) : (l.map fun g => [jC g])[k]? = some [jC l[k]] := by simp [h]
theorem yS {l : List (List (List UInt8))} : ∀ q ∈ l.map (fun g => [jC g]), q.length = 1 := by simp
theorem zaL {c : Cod} {g : List (List UInt8)} {at' place : Nat} (h : jX c g = true) (h1 : at' ≤ c.fields.length) (h2 : place < 5) : ∃ (x : at' < g.length) (y : place < g[at'].length), chF g at' place = (g[at'][place].toNat : Int) ∧ 48 ≤ chF g at' place ∧ chF g at' place ≤ 63 := by
 simp only [jX, Bool.and_eq_true, List.all_eq_true, beq_iff_eq] at h
 have x : at' < g.length := by omega
 have h3 := h.1 _ (List.getElem_mem x)
 have h5 := zb5 h3
 have y : place < g[at'].length := by omega
 have e : chF g at' place = (g[at'][place].toNat : Int) := by
  unfold chF
  have e1 : g.getD at' [] = g[at'] := by rw [List.getD_eq_getElem?_getD, List.getElem?_eq_getElem x, Option.getD_some]
  rw [e1, List.getD_eq_getElem?_getD, List.getElem?_eq_getElem y, Option.getD_some]
 have h6 := zob h3 y
 refine ⟨x, y, e, ?_⟩
 rw [e]
 simp only [xE, zms, zfP, Bool.or_eq_true, Bool.and_eq_true, decide_eq_true_eq] at h6
 omega
def wP (l : List (List (List UInt8))) (at' place : Nat) (f : Int) (i : Nat) : Int := if h : i < l.length then wrN (chF l[i] at' place, f) else 0
def okQ (c : Cod) (l : List (List (List UInt8))) (at' place : Nat) (f : Int) (i : Nat) (n : Int) : Bool := if h : i < l.length then okP c (chF l[i] at' place, f) && decide (n + wrN (chF l[i] at' place, f) ≤ c.most) else true
def vS (c : Cod) (l : List (List (List UInt8))) (at' place : Nat) (f : Int) (n : Int × Int × Int) : Bool := okQ c l at' place f 0 n.1 && (okQ c l at' place f 1 n.2.1 && okQ c l at' place f 2 n.2.2)
def plN (l : List (List (List UInt8))) (at' place : Nat) (f : Int) (n : Int × Int × Int) : Int × Int × Int := (n.1 + wP l at' place f 0, n.2.1 + wP l at' place f 1, n.2.2 + wP l at' place f 2)
def eCn (n : Int × Int × Int) : List AV := [ei n.1, ei n.2.1, ei n.2.2]
theorem zef (l : List (List (List UInt8))) (at' place : Nat) (f : Int) (i : Nat) : 0 ≤ wP l at' place f i ∧ wP l at' place f i ≤ 1 := by
 unfold wP wrN; split
 · split <;> omega
 · omega
theorem zcw {l : List (List (List UInt8))} {at' place : Nat} {f : Int} {i : Nat} (h : l.length ≤ i) : wP l at' place f i = 0 := by unfold wP; rw [dif_neg (by omega)]
theorem zaJ {c : Cod} {l : List (List (List UInt8))} {at' place : Nat} {f : Int} {i : Nat} {n : Int} (h : l.length ≤ i) : okQ c l at' place f i n = true := by unfold okQ; rw [dif_neg (by omega)]
theorem zd3 (c : Cod) (ch f : Int) : (zbl c ch f = 1 ∧ rgt ch f = true) ∨ (zbl c ch f = 2 ∧ rgt ch f = false ∧ wrg c ch f = true) ∨ (zbl c ch f = 0 ∧ rgt ch f = false ∧ wrg c ch f = false) := by
 unfold zbl
 cases h1 : rgt ch f with
 | true => simp
 | false => cases h2 : wrg c ch f <;> simp
theorem zdO {c : Cod} {l : List (List (List UInt8))} {at' place : Nat} {f n : Int} {i : Nat} (h : i < l.length) (hh : zbl c (chF l[i] at' place) f = 0) : okQ c l at' place f i n = false := by
 rcases zd3 c (chF l[i] at' place) f with ⟨h1, _⟩ | ⟨h1, _⟩ | ⟨_, h1, h2⟩
 · omega
 · omega
 · unfold okQ; rw [dif_pos h]; simp [okP, h1, h2]
theorem kZ {c : Cod} {l : List (List (List UInt8))} {at' place : Nat} {f n : Int} {i : Nat} (h : i < l.length) (hh : zbl c (chF l[i] at' place) f = 2) : wP l at' place f i = 1 ∧ okQ c l at' place f i n = decide (n + 1 ≤ c.most) := by
 rcases zd3 c (chF l[i] at' place) f with ⟨h1, _⟩ | ⟨_, h1, h2⟩ | ⟨h1, _⟩
 · omega
 · unfold wP okQ; rw [dif_pos h, dif_pos h]; simp [okP, wrN, h1, h2]
 · omega
theorem xk {c : Cod} {l : List (List (List UInt8))} {at' place : Nat} {f n : Int} {i : Nat} (h : i < l.length) (h0 : zbl c (chF l[i] at' place) f ≠ 0) (h2 : zbl c (chF l[i] at' place) f ≠ 2) : wP l at' place f i = 0 ∧ okQ c l at' place f i n = decide (n ≤ c.most) := by
 rcases zd3 c (chF l[i] at' place) f with ⟨_, h1⟩ | ⟨h1, _⟩ | ⟨h1, _⟩
 · unfold wP okQ; rw [dif_pos h, dif_pos h]; simp [okP, wrN, h1]
 · omega
 · omega
def zdd (n : Int × Int × Int) (c : Cod) (l : List (List (List UInt8))) (at' place : Nat) (f : Int) : Nat → Bool
 | 0 => okQ c l at' place f 0 n.1
 | 1 => okQ c l at' place f 1 n.2.1
 | _ => okQ c l at' place f 2 n.2.2
theorem zoH {n : Int × Int × Int} {c : Cod} {l : List (List (List UInt8))} {at' place : Nat} {f : Int} (h : vS c l at' place f n = true) : ∀ i, i < 3 → zdd n c l at' place f i = true := fun i hi => by
 simp only [vS, Bool.and_eq_true] at h
 match i, hi with
 | 0, _ => exact h.1
 | 1, _ => exact h.2.1
 | 2, _ => exact h.2.2
theorem zsV {l : List (List (List UInt8))} {at' place : Nat} {f : Int} {n : Int × Int × Int} (_h : l.length ≤ 0) (_ : 0 ≤ 1) : ei (n.1) = ei ((plN l at' place f n).1) := by
 unfold plN; simp only; rw [zcw (by omega), Int.add_zero]
theorem zsu {l : List (List (List UInt8))} {at' place : Nat} {f : Int} {n : Int × Int × Int} (_h : l.length ≤ 0) (_ : 0 ≤ 1) : ei (n.2.1) = ei ((plN l at' place f n).2.1) := by
 unfold plN; simp only; rw [zcw (by omega), Int.add_zero]
theorem zsn {l : List (List (List UInt8))} {at' place : Nat} {f : Int} {n : Int × Int × Int} (_h : l.length ≤ 0) (_ : 0 ≤ 1) : ei (n.2.2) = ei ((plN l at' place f n).2.2) := by
 unfold plN; simp only; rw [zcw (by omega), Int.add_zero]
theorem zsr {l : List (List (List UInt8))} {at' place : Nat} {f : Int} {n : Int × Int × Int} (_h : l.length ≤ 1) (_ : 0 ≤ 1) : ei (n.1 + wP l at' place f 0) = ei ((plN l at' place f n).1) := by
 rfl
theorem zsp {l : List (List (List UInt8))} {at' place : Nat} {f : Int} {n : Int × Int × Int} (_h : l.length ≤ 1) (_ : 0 ≤ 1) : ei (n.2.1) = ei ((plN l at' place f n).2.1) := by
 unfold plN; simp only; rw [zcw (by omega), Int.add_zero]
theorem zsW {l : List (List (List UInt8))} {at' place : Nat} {f : Int} {n : Int × Int × Int} (_h : l.length ≤ 1) (_ : 0 ≤ 1) : ei (n.2.2) = ei ((plN l at' place f n).2.2) := by
 unfold plN; simp only; rw [zcw (by omega), Int.add_zero]
theorem zsB {l : List (List (List UInt8))} {at' place : Nat} {f : Int} {n : Int × Int × Int} (_h : l.length ≤ 2) (_ : 0 ≤ 1) : ei (n.1 + wP l at' place f 0) = ei ((plN l at' place f n).1) := by
 rfl
theorem zsv {l : List (List (List UInt8))} {at' place : Nat} {f : Int} {n : Int × Int × Int} (_h : l.length ≤ 2) (_ : 0 ≤ 1) : ei (n.2.1 + wP l at' place f 1) = ei ((plN l at' place f n).2.1) := by
 rfl
theorem zsU {l : List (List (List UInt8))} {at' place : Nat} {f : Int} {n : Int × Int × Int} (_h : l.length ≤ 2) (_ : 0 ≤ 1) : ei (n.2.2) = ei ((plN l at' place f n).2.2) := by
 unfold plN; simp only; rw [zcw (by omega), Int.add_zero]
theorem zr9 {l : List (List (List UInt8))} {at' place : Nat} {f : Int} {n : Int × Int × Int} (_h : l.length ≤ 3) (_ : 0 ≤ 1) : ei (n.1 + wP l at' place f 0) = ei ((plN l at' place f n).1) := by
 rfl
theorem zsG {l : List (List (List UInt8))} {at' place : Nat} {f : Int} {n : Int × Int × Int} (_h : l.length ≤ 3) (_ : 0 ≤ 1) : ei (n.2.1 + wP l at' place f 1) = ei ((plN l at' place f n).2.1) := by
 rfl
theorem zsq {l : List (List (List UInt8))} {at' place : Nat} {f : Int} {n : Int × Int × Int} (_h : l.length ≤ 3) (_ : 0 ≤ 1) : ei (n.2.2 + wP l at' place f 2) = ei ((plN l at' place f n).2.2) := by
 rfl
theorem zpk (c : Cod) (l : List (List (List UInt8))) (n : Int × Int × Int) (at' place : Nat) (f : Int) (hc : jA c = true) (hl : l.length ≤ 3) (hcp : ∀ g ∈ l, jX c g = true) (hat : at' ≤ c.fields.length) (hpl : place < 5) (hf : 0 ≤ f ∧ f ≤ 9) (hn : 0 ≤ n.1 ∧ n.1 ≤ 1000 ∧ 0 ≤ n.2.1 ∧ n.2.1 ≤ 1000 ∧ 0 ≤ n.2.2 ∧ n.2.2 ≤ 1000) (hyes : vS c l at' place f n = true) : ACall Tryz.prog G 137 [.agg (yc c l), .agg (eCn n), ei (at' : Int), ei (place : Int), ei f] (.tup [.agg (eCn (plN l at' place f n)), .v (.bool true)]) := by
 have hb0 := zef l at' place f 0
 have hb1 := zef l at' place f 1
 have hb2 := zef l at' place f 2
 have hall := zoH hyes
 refine zS Tryz.func137 rfl (by kernel_rfl) rfl ?_
 refine zl (zh (zg rfl rfl (jf rfl (zY rfl)) (jb rfl (zqX rfl rfl (zY rfl)) (jb rfl (wO rfl rfl zi3 rfl rfl) (zg rfl rfl (zn rfl rfl) (zo (zf (zl (zl (zh (zg rfl rfl (zu rfl rfl zjm) ?_)))))))))))
 refine zg rfl rfl (zA rfl rfl rfl zsX) (zg rfl rfl (qh rfl rfl rfl Tryz.underlying26) (zg rfl rfl (zi rfl rfl) (zo (zf (zB ?_)))))
 refine qx (ι := { k : Nat // k < 4 }) (fun k => match k.1 with | 0 => ⟨Tryz.f137.ntmps, frL [(2, I (at' : Int)), (3, I (place : Int)), (4, I f), (5, .pub (.ptr (yc c l))), (6, .pp 0 1 0 0), (10, .pp 1 1 0 0), (15, .pub (qN l)), (16, I (l.length : Int)), (17, I 0)], [.row [[I n.1, I n.2.1, I n.2.2]], .row [[I 0, I 0, I 0]]]⟩ | 1 => ⟨Tryz.f137.ntmps, frL [(2, I (at' : Int)), (3, I (place : Int)), (4, I f), (5, .pub (.ptr (yc c l))), (6, .pp 0 1 0 0), (10, .pp 1 1 0 0), (15, .pub (qN l)), (16, I (l.length : Int)), (17, I 1)], [.row [[I (n.1 + wP l at' place f 0), I n.2.1, I n.2.2]], .row [[I 0, I 0, I 0]]]⟩ | 2 => ⟨Tryz.f137.ntmps, frL [(2, I (at' : Int)), (3, I (place : Int)), (4, I f), (5, .pub (.ptr (yc c l))), (6, .pp 0 1 0 0), (10, .pp 1 1 0 0), (15, .pub (qN l)), (16, I (l.length : Int)), (17, I 2)], [.row [[I (n.1 + wP l at' place f 0), I (n.2.1 + wP l at' place f 1), I n.2.2]], .row [[I 0, I 0, I 0]]]⟩ | _ => ⟨Tryz.f137.ntmps, frL [(2, I (at' : Int)), (3, I (place : Int)), (4, I f), (5, .pub (.ptr (yc c l))), (6, .pp 0 1 0 0), (10, .pp 1 1 0 0), (15, .pub (qN l)), (16, I (l.length : Int)), (17, I 3)], [.row [[I (n.1 + wP l at' place f 0), I (n.2.1 + wP l at' place f 1), I (n.2.2 + wP l at' place f 2)]], .row [[I 0, I 0, I 0]]]⟩) (fun k => 4 - k.1) (⟨0, by omega⟩) ?_ ?_
 ·
  exact zt _ ⟨rfl, rfl, rfl, rfl, rfl, rfl, rfl, (congrArg (fun x : Nat => I (x : Int)) (List.length_map _)), rfl, trivial⟩ (rfl)
 ·
  rintro ⟨k, hk⟩
  have hk3 : k = 0 ∨ k = 1 ∨ k = 2 ∨ k = 3 := by omega
  rcases hk3 with rfl | rfl | rfl | rfl
  ·
   dsimp only
   refine zl (zh (zg rfl rfl (qi rfl rfl rfl) (zo (zf (zl (zx rfl (fun h0 => ?_) (fun h0 => ?_)))))))
   ·
    have hlt : 0 < l.length := by simp at h0; omega
    obtain ⟨hx, hy, hch, hc1, hc2⟩ := zaL (hcp _ (List.getElem_mem hlt)) hat hpl
    refine zC (zf (zl (zB (zl (zh (zg rfl rfl (zi rfl rfl) (zg rfl rfl (zG rfl rfl rfl zbT (by omega) (za8 hlt) yS) (zg rfl rfl (zA rfl rfl rfl zfE) (zg rfl rfl (zn rfl rfl) (zg rfl rfl (zW rfl rfl) (zo ?_)))))))))))
    refine zf (zl (zl ?_))
    refine qX mixed (by kernel_rfl) rfl ?_
    refine zI rfl (zu rfl rfl jK) (zI rfl (zZ rfl rfl wB (by exact Nat.le_of_ble_eq_true rfl)) (zI rfl (zq rfl rfl) (zI rfl (zi rfl rfl) (zI rfl (zG rfl rfl rfl yH (by omega) (xQ hx) vZ) (zI rfl (zA rfl rfl rfl ty9) (zI rfl (zi rfl rfl) ?_))))))
    refine zI rfl (wE rfl rfl rfl Tryz.underlying9 (by omega) (by rw [Int.toNat_natCast]; exact List.getElem?_eq_getElem hy)) ?_
    refine zI rfl (zi rfl rfl) (zI rfl (zy (av := [_, _, _]) rfl ⟨rfl, rfl, rfl, trivial⟩ (hch ▸ f119 c _ f hc ⟨hc1, hc2⟩ hf)) (jw (zf (zB (zl (zh (zg rfl rfl (qI rfl rfl rfl) (zg rfl rfl (zn rfl rfl) (zo (zf (zx rfl (fun h1 => ?_) (fun h1 => ?_))))))))))))
    ·
     exfalso; have hq := zdO (c := c) (at' := at') (place := place) (f := f) (n := n.1) hlt (by rw [hch]; simpa using h1); have := (hall 0 (by omega)).symm.trans hq; cases this
    ·
     have hn0 : zbl c (chF l[0] at' place) f ≠ 0 := by rw [hch]; simpa using h1
     refine zl (zh (zg rfl rfl (qI rfl rfl rfl) (zg rfl rfl (zn rfl rfl) (zo (zf (zx rfl (fun h2 => ?_) (fun h2 => ?_)))))))
     ·
      have hwq := kZ (c := c) (at' := at') (place := place) (f := f) (n := n.1) hlt (by rw [hch]; simpa using h2)
      have hW := hwq.1
      have hq := hwq.2
      refine zh (zg rfl rfl (zi rfl rfl) (zg rfl rfl (zJ rfl rfl rfl rfl rfl jZ (by omega) (by omega)) (zg rfl rfl (zK rfl rfl rfl rfl rfl rfl ty3) (zg rfl rfl (zV rfl rfl rfl ⟨(by omega), (by omega)⟩) (zg rfl rfl (zJ rfl rfl rfl rfl rfl jZ (by omega) (by omega)) (jb rfl (qG rfl rfl rfl rfl rfl rfl (jG rfl) ty3 (by rfl) (by exact Nat.le_of_ble_eq_true rfl)) (zo (zD (zf (zl ?_))))))))))
      refine qX mixed (by kernel_rfl) rfl ?_
      refine zI rfl (zi rfl rfl) (zI rfl (zJ rfl rfl rfl rfl rfl jZ (by omega) (by omega)) (zI rfl (zK rfl rfl rfl rfl rfl rfl ty3) (zI rfl (zu rfl rfl jK) (zI rfl (zu rfl rfl wo) (zI rfl (zA rfl rfl rfl ty3) (zI rfl (qR rfl rfl rfl) (jw (zf (zx rfl (fun h3 => ?_) (fun h3 => ?_))))))))))
      ·
       exfalso; have := hq.symm.trans (hall 0 (by omega)); simp at this h3; omega
      ·
       have hok : True := trivial
       refine zC (zD (zf (zh (zg rfl rfl (zV rfl rfl rfl ⟨(by omega), (by omega)⟩) (zg rfl rfl (zi rfl rfl) (zo ?_))))))
       exact ⟨⟨1, by omega⟩, by dsimp only; omega, (by refine zt (mem' := [.row [[I (n.1 + wP l at' place f 0), I n.2.1, I n.2.2]], .row [[I 0, I 0, I 0]]]) [(2, I (at' : Int)), (3, I (place : Int)), (4, I f), (5, .pub (.ptr (yc c l))), (6, .pp 0 1 0 0), (10, .pp 1 1 0 0), (15, .pub (qN l)), (16, I (l.length : Int)), (17, I 1)] ?_ ?_; exact ⟨rfl, rfl, rfl, rfl, rfl, rfl, rfl, rfl, rfl, trivial⟩; exact (congrArg (fun z => [PO.row [z], .row [[I 0, I 0, I 0]]]) (by first | rw [hW, Int.add_zero] | rw [hW]; rfl | rw [hW])))⟩
     ·
      have hwq := xk (c := c) (at' := at') (place := place) (f := f) (n := n.1) hlt hn0 (by rw [hch]; simpa using h2)
      have hW := hwq.1
      have hq := hwq.2
      refine zC (zD (zf (zl ?_)))
      refine qX mixed (by kernel_rfl) rfl ?_
      refine zI rfl (zi rfl rfl) (zI rfl (zJ rfl rfl rfl rfl rfl jZ (by omega) (by omega)) (zI rfl (zK rfl rfl rfl rfl rfl rfl ty3) (zI rfl (zu rfl rfl jK) (zI rfl (zu rfl rfl wo) (zI rfl (zA rfl rfl rfl ty3) (zI rfl (qR rfl rfl rfl) (jw (zf (zx rfl (fun h3 => ?_) (fun h3 => ?_))))))))))
      ·
       exfalso; have := hq.symm.trans (hall 0 (by omega)); simp at this h3; omega
      ·
       have hok : True := trivial
       refine zC (zD (zf (zh (zg rfl rfl (zV rfl rfl rfl ⟨(by omega), (by omega)⟩) (zg rfl rfl (zi rfl rfl) (zo ?_))))))
       exact ⟨⟨1, by omega⟩, by dsimp only; omega, (by refine zt (mem' := [.row [[I (n.1 + wP l at' place f 0), I n.2.1, I n.2.2]], .row [[I 0, I 0, I 0]]]) [(2, I (at' : Int)), (3, I (place : Int)), (4, I f), (5, .pub (.ptr (yc c l))), (6, .pp 0 1 0 0), (10, .pp 1 1 0 0), (15, .pub (qN l)), (16, I (l.length : Int)), (17, I 1)] ?_ ?_; exact ⟨rfl, rfl, rfl, rfl, rfl, rfl, rfl, rfl, rfl, trivial⟩; exact (congrArg (fun z => [PO.row [z], .row [[I 0, I 0, I 0]]]) (by first | rw [hW, Int.add_zero] | rw [hW]; rfl | rw [hW])))⟩
   ·
    have hge : l.length ≤ 0 := by simp at h0; first | omega | simp [h0]
    refine qp (zL (zL (qw (zf (zl (zh (zg rfl rfl (qO (cs := [_, _, _]) rfl rfl rfl rfl rfl (by exact Nat.le_of_ble_eq_true rfl) rfl jh) (jb rfl (qG rfl rfl rfl rfl rfl rfl (zY rfl) jh (by rfl) (by exact Nat.le_of_ble_eq_true rfl)) (zg rfl rfl (zn rfl rfl) (zo (zf ?_)))))))))))
    refine zP ?_
    exact ⟨.inr rfl, ⟨_, rfl, ⟨_, _, rfl, (jJ rfl rfl rfl rfl jh rfl ⟨_, _, rfl, AVle.of (zsV hge (by omega)), ⟨_, _, rfl, AVle.of (zsu hge (by omega)), ⟨_, _, rfl, AVle.of (zsn hge (by omega)), rfl⟩⟩⟩), ⟨_, _, rfl, AVle.refl _, rfl⟩⟩⟩⟩
  ·
   dsimp only
   refine zl (zh (zg rfl rfl (qi rfl rfl rfl) (zo (zf (zl (zx rfl (fun h0 => ?_) (fun h0 => ?_)))))))
   ·
    have hlt : 1 < l.length := by simp at h0; omega
    obtain ⟨hx, hy, hch, hc1, hc2⟩ := zaL (hcp _ (List.getElem_mem hlt)) hat hpl
    refine zC (zf (zl (zB (zl (zh (zg rfl rfl (zi rfl rfl) (zg rfl rfl (zG rfl rfl rfl zbT (by omega) (za8 hlt) yS) (zg rfl rfl (zA rfl rfl rfl zfE) (zg rfl rfl (zn rfl rfl) (zg rfl rfl (zW rfl rfl) (zo ?_)))))))))))
    refine zf (zl (zl ?_))
    refine qX mixed (by kernel_rfl) rfl ?_
    refine zI rfl (zu rfl rfl jK) (zI rfl (zZ rfl rfl wB (by exact Nat.le_of_ble_eq_true rfl)) (zI rfl (zq rfl rfl) (zI rfl (zi rfl rfl) (zI rfl (zG rfl rfl rfl yH (by omega) (xQ hx) vZ) (zI rfl (zA rfl rfl rfl ty9) (zI rfl (zi rfl rfl) ?_))))))
    refine zI rfl (wE rfl rfl rfl Tryz.underlying9 (by omega) (by rw [Int.toNat_natCast]; exact List.getElem?_eq_getElem hy)) ?_
    refine zI rfl (zi rfl rfl) (zI rfl (zy (av := [_, _, _]) rfl ⟨rfl, rfl, rfl, trivial⟩ (hch ▸ f119 c _ f hc ⟨hc1, hc2⟩ hf)) (jw (zf (zB (zl (zh (zg rfl rfl (qI rfl rfl rfl) (zg rfl rfl (zn rfl rfl) (zo (zf (zx rfl (fun h1 => ?_) (fun h1 => ?_))))))))))))
    ·
     exfalso; have hq := zdO (c := c) (at' := at') (place := place) (f := f) (n := n.2.1) hlt (by rw [hch]; simpa using h1); have := (hall 1 (by omega)).symm.trans hq; cases this
    ·
     have hn0 : zbl c (chF l[1] at' place) f ≠ 0 := by rw [hch]; simpa using h1
     refine zl (zh (zg rfl rfl (qI rfl rfl rfl) (zg rfl rfl (zn rfl rfl) (zo (zf (zx rfl (fun h2 => ?_) (fun h2 => ?_)))))))
     ·
      have hwq := kZ (c := c) (at' := at') (place := place) (f := f) (n := n.2.1) hlt (by rw [hch]; simpa using h2)
      have hW := hwq.1
      have hq := hwq.2
      refine zh (zg rfl rfl (zi rfl rfl) (zg rfl rfl (zJ rfl rfl rfl rfl rfl jZ (by omega) (by omega)) (zg rfl rfl (zK rfl rfl rfl rfl rfl rfl ty3) (zg rfl rfl (zV rfl rfl rfl ⟨(by omega), (by omega)⟩) (zg rfl rfl (zJ rfl rfl rfl rfl rfl jZ (by omega) (by omega)) (jb rfl (qG rfl rfl rfl rfl rfl rfl (jG rfl) ty3 (by rfl) (by exact Nat.le_of_ble_eq_true rfl)) (zo (zD (zf (zl ?_))))))))))
      refine qX mixed (by kernel_rfl) rfl ?_
      refine zI rfl (zi rfl rfl) (zI rfl (zJ rfl rfl rfl rfl rfl jZ (by omega) (by omega)) (zI rfl (zK rfl rfl rfl rfl rfl rfl ty3) (zI rfl (zu rfl rfl jK) (zI rfl (zu rfl rfl wo) (zI rfl (zA rfl rfl rfl ty3) (zI rfl (qR rfl rfl rfl) (jw (zf (zx rfl (fun h3 => ?_) (fun h3 => ?_))))))))))
      ·
       exfalso; have := hq.symm.trans (hall 1 (by omega)); simp at this h3; omega
      ·
       have hok : True := trivial
       refine zC (zD (zf (zh (zg rfl rfl (zV rfl rfl rfl ⟨(by omega), (by omega)⟩) (zg rfl rfl (zi rfl rfl) (zo ?_))))))
       exact ⟨⟨2, by omega⟩, by dsimp only; omega, (by refine zt (mem' := [.row [[I (n.1 + wP l at' place f 0), I (n.2.1 + wP l at' place f 1), I n.2.2]], .row [[I 0, I 0, I 0]]]) [(2, I (at' : Int)), (3, I (place : Int)), (4, I f), (5, .pub (.ptr (yc c l))), (6, .pp 0 1 0 0), (10, .pp 1 1 0 0), (15, .pub (qN l)), (16, I (l.length : Int)), (17, I 2)] ?_ ?_; exact ⟨rfl, rfl, rfl, rfl, rfl, rfl, rfl, rfl, rfl, trivial⟩; exact (congrArg (fun z => [PO.row [z], .row [[I 0, I 0, I 0]]]) (by first | rw [hW, Int.add_zero] | rw [hW]; rfl | rw [hW])))⟩
     ·
      have hwq := xk (c := c) (at' := at') (place := place) (f := f) (n := n.2.1) hlt hn0 (by rw [hch]; simpa using h2)
      have hW := hwq.1
      have hq := hwq.2
      refine zC (zD (zf (zl ?_)))
      refine qX mixed (by kernel_rfl) rfl ?_
      refine zI rfl (zi rfl rfl) (zI rfl (zJ rfl rfl rfl rfl rfl jZ (by omega) (by omega)) (zI rfl (zK rfl rfl rfl rfl rfl rfl ty3) (zI rfl (zu rfl rfl jK) (zI rfl (zu rfl rfl wo) (zI rfl (zA rfl rfl rfl ty3) (zI rfl (qR rfl rfl rfl) (jw (zf (zx rfl (fun h3 => ?_) (fun h3 => ?_))))))))))
      ·
       exfalso; have := hq.symm.trans (hall 1 (by omega)); simp at this h3; omega
      ·
       have hok : True := trivial
       refine zC (zD (zf (zh (zg rfl rfl (zV rfl rfl rfl ⟨(by omega), (by omega)⟩) (zg rfl rfl (zi rfl rfl) (zo ?_))))))
       exact ⟨⟨2, by omega⟩, by dsimp only; omega, (by refine zt (mem' := [.row [[I (n.1 + wP l at' place f 0), I (n.2.1 + wP l at' place f 1), I n.2.2]], .row [[I 0, I 0, I 0]]]) [(2, I (at' : Int)), (3, I (place : Int)), (4, I f), (5, .pub (.ptr (yc c l))), (6, .pp 0 1 0 0), (10, .pp 1 1 0 0), (15, .pub (qN l)), (16, I (l.length : Int)), (17, I 2)] ?_ ?_; exact ⟨rfl, rfl, rfl, rfl, rfl, rfl, rfl, rfl, rfl, trivial⟩; exact (congrArg (fun z => [PO.row [z], .row [[I 0, I 0, I 0]]]) (by first | rw [hW, Int.add_zero] | rw [hW]; rfl | rw [hW])))⟩
   ·
    have hge : l.length ≤ 1 := by simp at h0; first | omega | simp [h0]
    refine qp (zL (zL (qw (zf (zl (zh (zg rfl rfl (qO (cs := [_, _, _]) rfl rfl rfl rfl rfl (by exact Nat.le_of_ble_eq_true rfl) rfl jh) (jb rfl (qG rfl rfl rfl rfl rfl rfl (zY rfl) jh (by rfl) (by exact Nat.le_of_ble_eq_true rfl)) (zg rfl rfl (zn rfl rfl) (zo (zf ?_)))))))))))
    refine zP ?_
    exact ⟨.inr rfl, ⟨_, rfl, ⟨_, _, rfl, (jJ rfl rfl rfl rfl jh rfl ⟨_, _, rfl, AVle.of (zsr hge (by omega)), ⟨_, _, rfl, AVle.of (zsp hge (by omega)), ⟨_, _, rfl, AVle.of (zsW hge (by omega)), rfl⟩⟩⟩), ⟨_, _, rfl, AVle.refl _, rfl⟩⟩⟩⟩
  ·
   dsimp only
   refine zl (zh (zg rfl rfl (qi rfl rfl rfl) (zo (zf (zl (zx rfl (fun h0 => ?_) (fun h0 => ?_)))))))
   ·
    have hlt : 2 < l.length := by simp at h0; omega
    obtain ⟨hx, hy, hch, hc1, hc2⟩ := zaL (hcp _ (List.getElem_mem hlt)) hat hpl
    refine zC (zf (zl (zB (zl (zh (zg rfl rfl (zi rfl rfl) (zg rfl rfl (zG rfl rfl rfl zbT (by omega) (za8 hlt) yS) (zg rfl rfl (zA rfl rfl rfl zfE) (zg rfl rfl (zn rfl rfl) (zg rfl rfl (zW rfl rfl) (zo ?_)))))))))))
    refine zf (zl (zl ?_))
    refine qX mixed (by kernel_rfl) rfl ?_
    refine zI rfl (zu rfl rfl jK) (zI rfl (zZ rfl rfl wB (by exact Nat.le_of_ble_eq_true rfl)) (zI rfl (zq rfl rfl) (zI rfl (zi rfl rfl) (zI rfl (zG rfl rfl rfl yH (by omega) (xQ hx) vZ) (zI rfl (zA rfl rfl rfl ty9) (zI rfl (zi rfl rfl) ?_))))))
    refine zI rfl (wE rfl rfl rfl Tryz.underlying9 (by omega) (by rw [Int.toNat_natCast]; exact List.getElem?_eq_getElem hy)) ?_
    refine zI rfl (zi rfl rfl) (zI rfl (zy (av := [_, _, _]) rfl ⟨rfl, rfl, rfl, trivial⟩ (hch ▸ f119 c _ f hc ⟨hc1, hc2⟩ hf)) (jw (zf (zB (zl (zh (zg rfl rfl (qI rfl rfl rfl) (zg rfl rfl (zn rfl rfl) (zo (zf (zx rfl (fun h1 => ?_) (fun h1 => ?_))))))))))))
    ·
     exfalso; have hq := zdO (c := c) (at' := at') (place := place) (f := f) (n := n.2.2) hlt (by rw [hch]; simpa using h1); have := (hall 2 (by omega)).symm.trans hq; cases this
    ·
     have hn0 : zbl c (chF l[2] at' place) f ≠ 0 := by rw [hch]; simpa using h1
     refine zl (zh (zg rfl rfl (qI rfl rfl rfl) (zg rfl rfl (zn rfl rfl) (zo (zf (zx rfl (fun h2 => ?_) (fun h2 => ?_)))))))
     ·
      have hwq := kZ (c := c) (at' := at') (place := place) (f := f) (n := n.2.2) hlt (by rw [hch]; simpa using h2)
      have hW := hwq.1
      have hq := hwq.2
      refine zh (zg rfl rfl (zi rfl rfl) (zg rfl rfl (zJ rfl rfl rfl rfl rfl jZ (by omega) (by omega)) (zg rfl rfl (zK rfl rfl rfl rfl rfl rfl ty3) (zg rfl rfl (zV rfl rfl rfl ⟨(by omega), (by omega)⟩) (zg rfl rfl (zJ rfl rfl rfl rfl rfl jZ (by omega) (by omega)) (jb rfl (qG rfl rfl rfl rfl rfl rfl (jG rfl) ty3 (by rfl) (by exact Nat.le_of_ble_eq_true rfl)) (zo (zD (zf (zl ?_))))))))))
      refine qX mixed (by kernel_rfl) rfl ?_
      refine zI rfl (zi rfl rfl) (zI rfl (zJ rfl rfl rfl rfl rfl jZ (by omega) (by omega)) (zI rfl (zK rfl rfl rfl rfl rfl rfl ty3) (zI rfl (zu rfl rfl jK) (zI rfl (zu rfl rfl wo) (zI rfl (zA rfl rfl rfl ty3) (zI rfl (qR rfl rfl rfl) (jw (zf (zx rfl (fun h3 => ?_) (fun h3 => ?_))))))))))
      ·
       exfalso; have := hq.symm.trans (hall 2 (by omega)); simp at this h3; omega
      ·
       have hok : True := trivial
       refine zC (zD (zf (zh (zg rfl rfl (zV rfl rfl rfl ⟨(by omega), (by omega)⟩) (zg rfl rfl (zi rfl rfl) (zo ?_))))))
       exact ⟨⟨3, by omega⟩, by dsimp only; omega, (by refine zt (mem' := [.row [[I (n.1 + wP l at' place f 0), I (n.2.1 + wP l at' place f 1), I (n.2.2 + wP l at' place f 2)]], .row [[I 0, I 0, I 0]]]) [(2, I (at' : Int)), (3, I (place : Int)), (4, I f), (5, .pub (.ptr (yc c l))), (6, .pp 0 1 0 0), (10, .pp 1 1 0 0), (15, .pub (qN l)), (16, I (l.length : Int)), (17, I 3)] ?_ ?_; exact ⟨rfl, rfl, rfl, rfl, rfl, rfl, rfl, rfl, rfl, trivial⟩; exact (congrArg (fun z => [PO.row [z], .row [[I 0, I 0, I 0]]]) (by first | rw [hW, Int.add_zero] | rw [hW]; rfl | rw [hW])))⟩
     ·
      have hwq := xk (c := c) (at' := at') (place := place) (f := f) (n := n.2.2) hlt hn0 (by rw [hch]; simpa using h2)
      have hW := hwq.1
      have hq := hwq.2
      refine zC (zD (zf (zl ?_)))
      refine qX mixed (by kernel_rfl) rfl ?_
      refine zI rfl (zi rfl rfl) (zI rfl (zJ rfl rfl rfl rfl rfl jZ (by omega) (by omega)) (zI rfl (zK rfl rfl rfl rfl rfl rfl ty3) (zI rfl (zu rfl rfl jK) (zI rfl (zu rfl rfl wo) (zI rfl (zA rfl rfl rfl ty3) (zI rfl (qR rfl rfl rfl) (jw (zf (zx rfl (fun h3 => ?_) (fun h3 => ?_))))))))))
      ·
       exfalso; have := hq.symm.trans (hall 2 (by omega)); simp at this h3; omega
      ·
       have hok : True := trivial
       refine zC (zD (zf (zh (zg rfl rfl (zV rfl rfl rfl ⟨(by omega), (by omega)⟩) (zg rfl rfl (zi rfl rfl) (zo ?_))))))
       exact ⟨⟨3, by omega⟩, by dsimp only; omega, (by refine zt (mem' := [.row [[I (n.1 + wP l at' place f 0), I (n.2.1 + wP l at' place f 1), I (n.2.2 + wP l at' place f 2)]], .row [[I 0, I 0, I 0]]]) [(2, I (at' : Int)), (3, I (place : Int)), (4, I f), (5, .pub (.ptr (yc c l))), (6, .pp 0 1 0 0), (10, .pp 1 1 0 0), (15, .pub (qN l)), (16, I (l.length : Int)), (17, I 3)] ?_ ?_; exact ⟨rfl, rfl, rfl, rfl, rfl, rfl, rfl, rfl, rfl, trivial⟩; exact (congrArg (fun z => [PO.row [z], .row [[I 0, I 0, I 0]]]) (by first | rw [hW, Int.add_zero] | rw [hW]; rfl | rw [hW])))⟩
   ·
    have hge : l.length ≤ 2 := by simp at h0; first | omega | simp [h0]
    refine qp (zL (zL (qw (zf (zl (zh (zg rfl rfl (qO (cs := [_, _, _]) rfl rfl rfl rfl rfl (by exact Nat.le_of_ble_eq_true rfl) rfl jh) (jb rfl (qG rfl rfl rfl rfl rfl rfl (zY rfl) jh (by rfl) (by exact Nat.le_of_ble_eq_true rfl)) (zg rfl rfl (zn rfl rfl) (zo (zf ?_)))))))))))
    refine zP ?_
    exact ⟨.inr rfl, ⟨_, rfl, ⟨_, _, rfl, (jJ rfl rfl rfl rfl jh rfl ⟨_, _, rfl, AVle.of (zsB hge (by omega)), ⟨_, _, rfl, AVle.of (zsv hge (by omega)), ⟨_, _, rfl, AVle.of (zsU hge (by omega)), rfl⟩⟩⟩), ⟨_, _, rfl, AVle.refl _, rfl⟩⟩⟩⟩
  ·
   dsimp only
   refine zl (zh (zg rfl rfl (qi rfl rfl rfl) (zo (zf (zl (zx rfl (fun h0 => ?_) (fun h0 => ?_)))))))
   ·
    exfalso; simp at h0; omega
   ·
    have hge : l.length ≤ 3 := by simp at h0; first | omega | simp [h0]
    refine qp (zL (zL (qw (zf (zl (zh (zg rfl rfl (qO (cs := [_, _, _]) rfl rfl rfl rfl rfl (by exact Nat.le_of_ble_eq_true rfl) rfl jh) (jb rfl (qG rfl rfl rfl rfl rfl rfl (zY rfl) jh (by rfl) (by exact Nat.le_of_ble_eq_true rfl)) (zg rfl rfl (zn rfl rfl) (zo (zf ?_)))))))))))
    refine zP ?_
    exact ⟨.inr rfl, ⟨_, rfl, ⟨_, _, rfl, (jJ rfl rfl rfl rfl jh rfl ⟨_, _, rfl, AVle.of (zr9 hge (by omega)), ⟨_, _, rfl, AVle.of (zsG hge (by omega)), ⟨_, _, rfl, AVle.of (zsq hge (by omega)), rfl⟩⟩⟩), ⟨_, _, rfl, AVle.refl _, rfl⟩⟩⟩⟩
theorem zpO (c : Cod) (l : List (List (List UInt8))) (n : Int × Int × Int) (at' place : Nat) (f : Int) (hc : jA c = true) (hl : l.length ≤ 3) (hcp : ∀ g ∈ l, jX c g = true) (hat : at' ≤ c.fields.length) (hpl : place < 5) (hf : 0 ≤ f ∧ f ≤ 9) (hn : 0 ≤ n.1 ∧ n.1 ≤ 1000 ∧ 0 ≤ n.2.1 ∧ n.2.1 ≤ 1000 ∧ 0 ≤ n.2.2 ∧ n.2.2 ≤ 1000) (hno : vS c l at' place f n = false) : ACall Tryz.prog G 137 [.agg (yc c l), .agg (eCn n), ei (at' : Int), ei (place : Int), ei f] (.tup [.agg [.top, .top, .top], .v (.bool false)]) := by
 have hb0 := zef l at' place f 0
 have hb1 := zef l at' place f 1
 have hb2 := zef l at' place f 2
 refine zS Tryz.func137 rfl (by kernel_rfl) rfl ?_
 refine zl (zh (zg rfl rfl (jf rfl (zY rfl)) (jb rfl (zqX rfl rfl (zY rfl)) (jb rfl (wO rfl rfl zi3 rfl rfl) (zg rfl rfl (zn rfl rfl) (zo (zf (zl (zl (zh (zg rfl rfl (zu rfl rfl zjm) ?_)))))))))))
 refine zg rfl rfl (zA rfl rfl rfl zsX) (zg rfl rfl (qh rfl rfl rfl Tryz.underlying26) (zg rfl rfl (zi rfl rfl) (zo (zf (zB ?_)))))
 refine qx (ι := { k : Nat // k < 4 ∧ (∀ i, i < k → zdd n c l at' place f i = true) }) (fun k => match k.1 with | 0 => ⟨Tryz.f137.ntmps, frL [(2, I (at' : Int)), (3, I (place : Int)), (4, I f), (5, .pub (.ptr (yc c l))), (6, .pp 0 1 0 0), (10, .pp 1 1 0 0), (15, .pub (qN l)), (16, I (l.length : Int)), (17, I 0)], [.row [[I n.1, I n.2.1, I n.2.2]], .row [[I 0, I 0, I 0]]]⟩ | 1 => ⟨Tryz.f137.ntmps, frL [(2, I (at' : Int)), (3, I (place : Int)), (4, I f), (5, .pub (.ptr (yc c l))), (6, .pp 0 1 0 0), (10, .pp 1 1 0 0), (15, .pub (qN l)), (16, I (l.length : Int)), (17, I 1)], [.row [[I (n.1 + wP l at' place f 0), I n.2.1, I n.2.2]], .row [[I 0, I 0, I 0]]]⟩ | 2 => ⟨Tryz.f137.ntmps, frL [(2, I (at' : Int)), (3, I (place : Int)), (4, I f), (5, .pub (.ptr (yc c l))), (6, .pp 0 1 0 0), (10, .pp 1 1 0 0), (15, .pub (qN l)), (16, I (l.length : Int)), (17, I 2)], [.row [[I (n.1 + wP l at' place f 0), I (n.2.1 + wP l at' place f 1), I n.2.2]], .row [[I 0, I 0, I 0]]]⟩ | _ => ⟨Tryz.f137.ntmps, frL [(2, I (at' : Int)), (3, I (place : Int)), (4, I f), (5, .pub (.ptr (yc c l))), (6, .pp 0 1 0 0), (10, .pp 1 1 0 0), (15, .pub (qN l)), (16, I (l.length : Int)), (17, I 3)], [.row [[I (n.1 + wP l at' place f 0), I (n.2.1 + wP l at' place f 1), I (n.2.2 + wP l at' place f 2)]], .row [[I 0, I 0, I 0]]]⟩) (fun k => 4 - k.1) (⟨0, by omega, fun i hi => absurd hi (by omega)⟩) ?_ ?_
 ·
  exact zt _ ⟨rfl, rfl, rfl, rfl, rfl, rfl, rfl, (congrArg (fun x : Nat => I (x : Int)) (List.length_map _)), rfl, trivial⟩ (rfl)
 ·
  rintro ⟨k, hk, hinv⟩
  have hk3 : k = 0 ∨ k = 1 ∨ k = 2 ∨ k = 3 := by omega
  rcases hk3 with rfl | rfl | rfl | rfl
  ·
   dsimp only
   refine zl (zh (zg rfl rfl (qi rfl rfl rfl) (zo (zf (zl (zx rfl (fun h0 => ?_) (fun h0 => ?_)))))))
   ·
    have hlt : 0 < l.length := by simp at h0; omega
    obtain ⟨hx, hy, hch, hc1, hc2⟩ := zaL (hcp _ (List.getElem_mem hlt)) hat hpl
    refine zC (zf (zl (zB (zl (zh (zg rfl rfl (zi rfl rfl) (zg rfl rfl (zG rfl rfl rfl zbT (by omega) (za8 hlt) yS) (zg rfl rfl (zA rfl rfl rfl zfE) (zg rfl rfl (zn rfl rfl) (zg rfl rfl (zW rfl rfl) (zo ?_)))))))))))
    refine zf (zl (zl ?_))
    refine qX mixed (by kernel_rfl) rfl ?_
    refine zI rfl (zu rfl rfl jK) (zI rfl (zZ rfl rfl wB (by exact Nat.le_of_ble_eq_true rfl)) (zI rfl (zq rfl rfl) (zI rfl (zi rfl rfl) (zI rfl (zG rfl rfl rfl yH (by omega) (xQ hx) vZ) (zI rfl (zA rfl rfl rfl ty9) (zI rfl (zi rfl rfl) ?_))))))
    refine zI rfl (wE rfl rfl rfl Tryz.underlying9 (by omega) (by rw [Int.toNat_natCast]; exact List.getElem?_eq_getElem hy)) ?_
    refine zI rfl (zi rfl rfl) (zI rfl (zy (av := [_, _, _]) rfl ⟨rfl, rfl, rfl, trivial⟩ (hch ▸ f119 c _ f hc ⟨hc1, hc2⟩ hf)) (jw (zf (zB (zl (zh (zg rfl rfl (qI rfl rfl rfl) (zg rfl rfl (zn rfl rfl) (zo (zf (zx rfl (fun h1 => ?_) (fun h1 => ?_))))))))))))
    ·
     refine zl (zh (zg rfl rfl (qO (cs := [_, _, _]) rfl rfl rfl rfl rfl (by exact Nat.le_of_ble_eq_true rfl) rfl jh) (jb rfl (qG rfl rfl rfl rfl rfl rfl (zY rfl) jh (by rfl) (by exact Nat.le_of_ble_eq_true rfl)) (zg rfl rfl (zn rfl rfl) (zo (zf (zP (qF (zQ (qF (zQ ?_)))))))))))
     refine zQ (qF (zQ ?_))
     exact ⟨.inr rfl, ⟨_, rfl, ⟨_, _, rfl, (jJ rfl rfl rfl rfl jh rfl ⟨_, _, rfl, AVle.top _, ⟨_, _, rfl, AVle.top _, ⟨_, _, rfl, AVle.top _, rfl⟩⟩⟩), ⟨_, _, rfl, AVle.refl _, rfl⟩⟩⟩⟩
    ·
     have hn0 : zbl c (chF l[0] at' place) f ≠ 0 := by rw [hch]; simpa using h1
     refine zl (zh (zg rfl rfl (qI rfl rfl rfl) (zg rfl rfl (zn rfl rfl) (zo (zf (zx rfl (fun h2 => ?_) (fun h2 => ?_)))))))
     ·
      have hwq := kZ (c := c) (at' := at') (place := place) (f := f) (n := n.1) hlt (by rw [hch]; simpa using h2)
      have hW := hwq.1
      have hq := hwq.2
      refine zh (zg rfl rfl (zi rfl rfl) (zg rfl rfl (zJ rfl rfl rfl rfl rfl jZ (by omega) (by omega)) (zg rfl rfl (zK rfl rfl rfl rfl rfl rfl ty3) (zg rfl rfl (zV rfl rfl rfl ⟨(by omega), (by omega)⟩) (zg rfl rfl (zJ rfl rfl rfl rfl rfl jZ (by omega) (by omega)) (jb rfl (qG rfl rfl rfl rfl rfl rfl (jG rfl) ty3 (by rfl) (by exact Nat.le_of_ble_eq_true rfl)) (zo (zD (zf (zl ?_))))))))))
      refine qX mixed (by kernel_rfl) rfl ?_
      refine zI rfl (zi rfl rfl) (zI rfl (zJ rfl rfl rfl rfl rfl jZ (by omega) (by omega)) (zI rfl (zK rfl rfl rfl rfl rfl rfl ty3) (zI rfl (zu rfl rfl jK) (zI rfl (zu rfl rfl wo) (zI rfl (zA rfl rfl rfl ty3) (zI rfl (qR rfl rfl rfl) (jw (zf (zx rfl (fun h3 => ?_) (fun h3 => ?_))))))))))
      ·
       refine zl (zh (zg rfl rfl (qO (cs := [_, _, _]) rfl rfl rfl rfl rfl (by exact Nat.le_of_ble_eq_true rfl) rfl jh) (jb rfl (qG rfl rfl rfl rfl rfl rfl (zY rfl) jh (by rfl) (by exact Nat.le_of_ble_eq_true rfl)) (zg rfl rfl (zn rfl rfl) (zo (zf (zP (qF (zQ (zQ (qF ?_)))))))))))
       refine zQ ?_
       exact ⟨.inr rfl, ⟨_, rfl, ⟨_, _, rfl, (jJ rfl rfl rfl rfl jh rfl ⟨_, _, rfl, AVle.top _, ⟨_, _, rfl, AVle.top _, ⟨_, _, rfl, AVle.top _, rfl⟩⟩⟩), ⟨_, _, rfl, AVle.refl _, rfl⟩⟩⟩⟩
      ·
       have hok : zdd n c l at' place f 0 = true := by simp only [zdd]; rw [hq]; simpa using h3
       refine zC (zD (zf (zh (zg rfl rfl (zV rfl rfl rfl ⟨(by omega), (by omega)⟩) (zg rfl rfl (zi rfl rfl) (zo ?_))))))
       exact ⟨⟨1, by omega, (fun i hi => by rcases (show i = 0 by omega) with rfl <;> first | exact hok | exact hinv _ (by omega))⟩, by dsimp only; omega, (by refine zt (mem' := [.row [[I (n.1 + wP l at' place f 0), I n.2.1, I n.2.2]], .row [[I 0, I 0, I 0]]]) [(2, I (at' : Int)), (3, I (place : Int)), (4, I f), (5, .pub (.ptr (yc c l))), (6, .pp 0 1 0 0), (10, .pp 1 1 0 0), (15, .pub (qN l)), (16, I (l.length : Int)), (17, I 1)] ?_ ?_; exact ⟨rfl, rfl, rfl, rfl, rfl, rfl, rfl, rfl, rfl, trivial⟩; exact (congrArg (fun z => [PO.row [z], .row [[I 0, I 0, I 0]]]) (by first | rw [hW, Int.add_zero] | rw [hW]; rfl | rw [hW])))⟩
     ·
      have hwq := xk (c := c) (at' := at') (place := place) (f := f) (n := n.1) hlt hn0 (by rw [hch]; simpa using h2)
      have hW := hwq.1
      have hq := hwq.2
      refine zC (zD (zf (zl ?_)))
      refine qX mixed (by kernel_rfl) rfl ?_
      refine zI rfl (zi rfl rfl) (zI rfl (zJ rfl rfl rfl rfl rfl jZ (by omega) (by omega)) (zI rfl (zK rfl rfl rfl rfl rfl rfl ty3) (zI rfl (zu rfl rfl jK) (zI rfl (zu rfl rfl wo) (zI rfl (zA rfl rfl rfl ty3) (zI rfl (qR rfl rfl rfl) (jw (zf (zx rfl (fun h3 => ?_) (fun h3 => ?_))))))))))
      ·
       refine zl (zh (zg rfl rfl (qO (cs := [_, _, _]) rfl rfl rfl rfl rfl (by exact Nat.le_of_ble_eq_true rfl) rfl jh) (jb rfl (qG rfl rfl rfl rfl rfl rfl (zY rfl) jh (by rfl) (by exact Nat.le_of_ble_eq_true rfl)) (zg rfl rfl (zn rfl rfl) (zo (zf (zP (qF (zQ (zQ (qF ?_)))))))))))
       refine zQ ?_
       exact ⟨.inr rfl, ⟨_, rfl, ⟨_, _, rfl, (jJ rfl rfl rfl rfl jh rfl ⟨_, _, rfl, AVle.top _, ⟨_, _, rfl, AVle.top _, ⟨_, _, rfl, AVle.top _, rfl⟩⟩⟩), ⟨_, _, rfl, AVle.refl _, rfl⟩⟩⟩⟩
      ·
       have hok : zdd n c l at' place f 0 = true := by simp only [zdd]; rw [hq]; simpa using h3
       refine zC (zD (zf (zh (zg rfl rfl (zV rfl rfl rfl ⟨(by omega), (by omega)⟩) (zg rfl rfl (zi rfl rfl) (zo ?_))))))
       exact ⟨⟨1, by omega, (fun i hi => by rcases (show i = 0 by omega) with rfl <;> first | exact hok | exact hinv _ (by omega))⟩, by dsimp only; omega, (by refine zt (mem' := [.row [[I (n.1 + wP l at' place f 0), I n.2.1, I n.2.2]], .row [[I 0, I 0, I 0]]]) [(2, I (at' : Int)), (3, I (place : Int)), (4, I f), (5, .pub (.ptr (yc c l))), (6, .pp 0 1 0 0), (10, .pp 1 1 0 0), (15, .pub (qN l)), (16, I (l.length : Int)), (17, I 1)] ?_ ?_; exact ⟨rfl, rfl, rfl, rfl, rfl, rfl, rfl, rfl, rfl, trivial⟩; exact (congrArg (fun z => [PO.row [z], .row [[I 0, I 0, I 0]]]) (by first | rw [hW, Int.add_zero] | rw [hW]; rfl | rw [hW])))⟩
   ·
    exfalso; have hge : l.length ≤ 0 := by simp at h0; first | omega | simp [h0]
    have : vS c l at' place f n = true := by
     have := hinv
     simp only [vS, Bool.and_eq_true]
     exact ⟨zaJ (by omega), zaJ (by omega), zaJ (by omega)⟩
    rw [this] at hno; cases hno
  ·
   dsimp only
   refine zl (zh (zg rfl rfl (qi rfl rfl rfl) (zo (zf (zl (zx rfl (fun h0 => ?_) (fun h0 => ?_)))))))
   ·
    have hlt : 1 < l.length := by simp at h0; omega
    obtain ⟨hx, hy, hch, hc1, hc2⟩ := zaL (hcp _ (List.getElem_mem hlt)) hat hpl
    refine zC (zf (zl (zB (zl (zh (zg rfl rfl (zi rfl rfl) (zg rfl rfl (zG rfl rfl rfl zbT (by omega) (za8 hlt) yS) (zg rfl rfl (zA rfl rfl rfl zfE) (zg rfl rfl (zn rfl rfl) (zg rfl rfl (zW rfl rfl) (zo ?_)))))))))))
    refine zf (zl (zl ?_))
    refine qX mixed (by kernel_rfl) rfl ?_
    refine zI rfl (zu rfl rfl jK) (zI rfl (zZ rfl rfl wB (by exact Nat.le_of_ble_eq_true rfl)) (zI rfl (zq rfl rfl) (zI rfl (zi rfl rfl) (zI rfl (zG rfl rfl rfl yH (by omega) (xQ hx) vZ) (zI rfl (zA rfl rfl rfl ty9) (zI rfl (zi rfl rfl) ?_))))))
    refine zI rfl (wE rfl rfl rfl Tryz.underlying9 (by omega) (by rw [Int.toNat_natCast]; exact List.getElem?_eq_getElem hy)) ?_
    refine zI rfl (zi rfl rfl) (zI rfl (zy (av := [_, _, _]) rfl ⟨rfl, rfl, rfl, trivial⟩ (hch ▸ f119 c _ f hc ⟨hc1, hc2⟩ hf)) (jw (zf (zB (zl (zh (zg rfl rfl (qI rfl rfl rfl) (zg rfl rfl (zn rfl rfl) (zo (zf (zx rfl (fun h1 => ?_) (fun h1 => ?_))))))))))))
    ·
     refine zl (zh (zg rfl rfl (qO (cs := [_, _, _]) rfl rfl rfl rfl rfl (by exact Nat.le_of_ble_eq_true rfl) rfl jh) (jb rfl (qG rfl rfl rfl rfl rfl rfl (zY rfl) jh (by rfl) (by exact Nat.le_of_ble_eq_true rfl)) (zg rfl rfl (zn rfl rfl) (zo (zf (zP (qF (zQ (qF (zQ ?_)))))))))))
     refine zQ (qF (zQ ?_))
     exact ⟨.inr rfl, ⟨_, rfl, ⟨_, _, rfl, (jJ rfl rfl rfl rfl jh rfl ⟨_, _, rfl, AVle.top _, ⟨_, _, rfl, AVle.top _, ⟨_, _, rfl, AVle.top _, rfl⟩⟩⟩), ⟨_, _, rfl, AVle.refl _, rfl⟩⟩⟩⟩
    ·
     have hn0 : zbl c (chF l[1] at' place) f ≠ 0 := by rw [hch]; simpa using h1
     refine zl (zh (zg rfl rfl (qI rfl rfl rfl) (zg rfl rfl (zn rfl rfl) (zo (zf (zx rfl (fun h2 => ?_) (fun h2 => ?_)))))))
     ·
      have hwq := kZ (c := c) (at' := at') (place := place) (f := f) (n := n.2.1) hlt (by rw [hch]; simpa using h2)
      have hW := hwq.1
      have hq := hwq.2
      refine zh (zg rfl rfl (zi rfl rfl) (zg rfl rfl (zJ rfl rfl rfl rfl rfl jZ (by omega) (by omega)) (zg rfl rfl (zK rfl rfl rfl rfl rfl rfl ty3) (zg rfl rfl (zV rfl rfl rfl ⟨(by omega), (by omega)⟩) (zg rfl rfl (zJ rfl rfl rfl rfl rfl jZ (by omega) (by omega)) (jb rfl (qG rfl rfl rfl rfl rfl rfl (jG rfl) ty3 (by rfl) (by exact Nat.le_of_ble_eq_true rfl)) (zo (zD (zf (zl ?_))))))))))
      refine qX mixed (by kernel_rfl) rfl ?_
      refine zI rfl (zi rfl rfl) (zI rfl (zJ rfl rfl rfl rfl rfl jZ (by omega) (by omega)) (zI rfl (zK rfl rfl rfl rfl rfl rfl ty3) (zI rfl (zu rfl rfl jK) (zI rfl (zu rfl rfl wo) (zI rfl (zA rfl rfl rfl ty3) (zI rfl (qR rfl rfl rfl) (jw (zf (zx rfl (fun h3 => ?_) (fun h3 => ?_))))))))))
      ·
       refine zl (zh (zg rfl rfl (qO (cs := [_, _, _]) rfl rfl rfl rfl rfl (by exact Nat.le_of_ble_eq_true rfl) rfl jh) (jb rfl (qG rfl rfl rfl rfl rfl rfl (zY rfl) jh (by rfl) (by exact Nat.le_of_ble_eq_true rfl)) (zg rfl rfl (zn rfl rfl) (zo (zf (zP (qF (zQ (zQ (qF ?_)))))))))))
       refine zQ ?_
       exact ⟨.inr rfl, ⟨_, rfl, ⟨_, _, rfl, (jJ rfl rfl rfl rfl jh rfl ⟨_, _, rfl, AVle.top _, ⟨_, _, rfl, AVle.top _, ⟨_, _, rfl, AVle.top _, rfl⟩⟩⟩), ⟨_, _, rfl, AVle.refl _, rfl⟩⟩⟩⟩
      ·
       have hok : zdd n c l at' place f 1 = true := by simp only [zdd]; rw [hq]; simpa using h3
       refine zC (zD (zf (zh (zg rfl rfl (zV rfl rfl rfl ⟨(by omega), (by omega)⟩) (zg rfl rfl (zi rfl rfl) (zo ?_))))))
       exact ⟨⟨2, by omega, (fun i hi => by rcases (show i = 0 ∨ i = 1 by omega) with rfl | rfl <;> first | exact hok | exact hinv _ (by omega))⟩, by dsimp only; omega, (by refine zt (mem' := [.row [[I (n.1 + wP l at' place f 0), I (n.2.1 + wP l at' place f 1), I n.2.2]], .row [[I 0, I 0, I 0]]]) [(2, I (at' : Int)), (3, I (place : Int)), (4, I f), (5, .pub (.ptr (yc c l))), (6, .pp 0 1 0 0), (10, .pp 1 1 0 0), (15, .pub (qN l)), (16, I (l.length : Int)), (17, I 2)] ?_ ?_; exact ⟨rfl, rfl, rfl, rfl, rfl, rfl, rfl, rfl, rfl, trivial⟩; exact (congrArg (fun z => [PO.row [z], .row [[I 0, I 0, I 0]]]) (by first | rw [hW, Int.add_zero] | rw [hW]; rfl | rw [hW])))⟩
     ·
      have hwq := xk (c := c) (at' := at') (place := place) (f := f) (n := n.2.1) hlt hn0 (by rw [hch]; simpa using h2)
      have hW := hwq.1
      have hq := hwq.2
      refine zC (zD (zf (zl ?_)))
      refine qX mixed (by kernel_rfl) rfl ?_
      refine zI rfl (zi rfl rfl) (zI rfl (zJ rfl rfl rfl rfl rfl jZ (by omega) (by omega)) (zI rfl (zK rfl rfl rfl rfl rfl rfl ty3) (zI rfl (zu rfl rfl jK) (zI rfl (zu rfl rfl wo) (zI rfl (zA rfl rfl rfl ty3) (zI rfl (qR rfl rfl rfl) (jw (zf (zx rfl (fun h3 => ?_) (fun h3 => ?_))))))))))
      ·
       refine zl (zh (zg rfl rfl (qO (cs := [_, _, _]) rfl rfl rfl rfl rfl (by exact Nat.le_of_ble_eq_true rfl) rfl jh) (jb rfl (qG rfl rfl rfl rfl rfl rfl (zY rfl) jh (by rfl) (by exact Nat.le_of_ble_eq_true rfl)) (zg rfl rfl (zn rfl rfl) (zo (zf (zP (qF (zQ (zQ (qF ?_)))))))))))
       refine zQ ?_
       exact ⟨.inr rfl, ⟨_, rfl, ⟨_, _, rfl, (jJ rfl rfl rfl rfl jh rfl ⟨_, _, rfl, AVle.top _, ⟨_, _, rfl, AVle.top _, ⟨_, _, rfl, AVle.top _, rfl⟩⟩⟩), ⟨_, _, rfl, AVle.refl _, rfl⟩⟩⟩⟩
      ·
       have hok : zdd n c l at' place f 1 = true := by simp only [zdd]; rw [hq]; simpa using h3
       refine zC (zD (zf (zh (zg rfl rfl (zV rfl rfl rfl ⟨(by omega), (by omega)⟩) (zg rfl rfl (zi rfl rfl) (zo ?_))))))
       exact ⟨⟨2, by omega, (fun i hi => by rcases (show i = 0 ∨ i = 1 by omega) with rfl | rfl <;> first | exact hok | exact hinv _ (by omega))⟩, by dsimp only; omega, (by refine zt (mem' := [.row [[I (n.1 + wP l at' place f 0), I (n.2.1 + wP l at' place f 1), I n.2.2]], .row [[I 0, I 0, I 0]]]) [(2, I (at' : Int)), (3, I (place : Int)), (4, I f), (5, .pub (.ptr (yc c l))), (6, .pp 0 1 0 0), (10, .pp 1 1 0 0), (15, .pub (qN l)), (16, I (l.length : Int)), (17, I 2)] ?_ ?_; exact ⟨rfl, rfl, rfl, rfl, rfl, rfl, rfl, rfl, rfl, trivial⟩; exact (congrArg (fun z => [PO.row [z], .row [[I 0, I 0, I 0]]]) (by first | rw [hW, Int.add_zero] | rw [hW]; rfl | rw [hW])))⟩
   ·
    exfalso; have hge : l.length ≤ 1 := by simp at h0; first | omega | simp [h0]
    have : vS c l at' place f n = true := by
     have := hinv
     simp only [vS, Bool.and_eq_true]
     exact ⟨hinv 0 (by omega), zaJ (by omega), zaJ (by omega)⟩
    rw [this] at hno; cases hno
  ·
   dsimp only
   refine zl (zh (zg rfl rfl (qi rfl rfl rfl) (zo (zf (zl (zx rfl (fun h0 => ?_) (fun h0 => ?_)))))))
   ·
    have hlt : 2 < l.length := by simp at h0; omega
    obtain ⟨hx, hy, hch, hc1, hc2⟩ := zaL (hcp _ (List.getElem_mem hlt)) hat hpl
    refine zC (zf (zl (zB (zl (zh (zg rfl rfl (zi rfl rfl) (zg rfl rfl (zG rfl rfl rfl zbT (by omega) (za8 hlt) yS) (zg rfl rfl (zA rfl rfl rfl zfE) (zg rfl rfl (zn rfl rfl) (zg rfl rfl (zW rfl rfl) (zo ?_)))))))))))
    refine zf (zl (zl ?_))
    refine qX mixed (by kernel_rfl) rfl ?_
    refine zI rfl (zu rfl rfl jK) (zI rfl (zZ rfl rfl wB (by exact Nat.le_of_ble_eq_true rfl)) (zI rfl (zq rfl rfl) (zI rfl (zi rfl rfl) (zI rfl (zG rfl rfl rfl yH (by omega) (xQ hx) vZ) (zI rfl (zA rfl rfl rfl ty9) (zI rfl (zi rfl rfl) ?_))))))
    refine zI rfl (wE rfl rfl rfl Tryz.underlying9 (by omega) (by rw [Int.toNat_natCast]; exact List.getElem?_eq_getElem hy)) ?_
    refine zI rfl (zi rfl rfl) (zI rfl (zy (av := [_, _, _]) rfl ⟨rfl, rfl, rfl, trivial⟩ (hch ▸ f119 c _ f hc ⟨hc1, hc2⟩ hf)) (jw (zf (zB (zl (zh (zg rfl rfl (qI rfl rfl rfl) (zg rfl rfl (zn rfl rfl) (zo (zf (zx rfl (fun h1 => ?_) (fun h1 => ?_))))))))))))
    ·
     refine zl (zh (zg rfl rfl (qO (cs := [_, _, _]) rfl rfl rfl rfl rfl (by exact Nat.le_of_ble_eq_true rfl) rfl jh) (jb rfl (qG rfl rfl rfl rfl rfl rfl (zY rfl) jh (by rfl) (by exact Nat.le_of_ble_eq_true rfl)) (zg rfl rfl (zn rfl rfl) (zo (zf (zP (qF (zQ (qF (zQ ?_)))))))))))
     refine zQ (qF (zQ ?_))
     exact ⟨.inr rfl, ⟨_, rfl, ⟨_, _, rfl, (jJ rfl rfl rfl rfl jh rfl ⟨_, _, rfl, AVle.top _, ⟨_, _, rfl, AVle.top _, ⟨_, _, rfl, AVle.top _, rfl⟩⟩⟩), ⟨_, _, rfl, AVle.refl _, rfl⟩⟩⟩⟩
    ·
     have hn0 : zbl c (chF l[2] at' place) f ≠ 0 := by rw [hch]; simpa using h1
     refine zl (zh (zg rfl rfl (qI rfl rfl rfl) (zg rfl rfl (zn rfl rfl) (zo (zf (zx rfl (fun h2 => ?_) (fun h2 => ?_)))))))
     ·
      have hwq := kZ (c := c) (at' := at') (place := place) (f := f) (n := n.2.2) hlt (by rw [hch]; simpa using h2)
      have hW := hwq.1
      have hq := hwq.2
      refine zh (zg rfl rfl (zi rfl rfl) (zg rfl rfl (zJ rfl rfl rfl rfl rfl jZ (by omega) (by omega)) (zg rfl rfl (zK rfl rfl rfl rfl rfl rfl ty3) (zg rfl rfl (zV rfl rfl rfl ⟨(by omega), (by omega)⟩) (zg rfl rfl (zJ rfl rfl rfl rfl rfl jZ (by omega) (by omega)) (jb rfl (qG rfl rfl rfl rfl rfl rfl (jG rfl) ty3 (by rfl) (by exact Nat.le_of_ble_eq_true rfl)) (zo (zD (zf (zl ?_))))))))))
      refine qX mixed (by kernel_rfl) rfl ?_
      refine zI rfl (zi rfl rfl) (zI rfl (zJ rfl rfl rfl rfl rfl jZ (by omega) (by omega)) (zI rfl (zK rfl rfl rfl rfl rfl rfl ty3) (zI rfl (zu rfl rfl jK) (zI rfl (zu rfl rfl wo) (zI rfl (zA rfl rfl rfl ty3) (zI rfl (qR rfl rfl rfl) (jw (zf (zx rfl (fun h3 => ?_) (fun h3 => ?_))))))))))
      ·
       refine zl (zh (zg rfl rfl (qO (cs := [_, _, _]) rfl rfl rfl rfl rfl (by exact Nat.le_of_ble_eq_true rfl) rfl jh) (jb rfl (qG rfl rfl rfl rfl rfl rfl (zY rfl) jh (by rfl) (by exact Nat.le_of_ble_eq_true rfl)) (zg rfl rfl (zn rfl rfl) (zo (zf (zP (qF (zQ (zQ (qF ?_)))))))))))
       refine zQ ?_
       exact ⟨.inr rfl, ⟨_, rfl, ⟨_, _, rfl, (jJ rfl rfl rfl rfl jh rfl ⟨_, _, rfl, AVle.top _, ⟨_, _, rfl, AVle.top _, ⟨_, _, rfl, AVle.top _, rfl⟩⟩⟩), ⟨_, _, rfl, AVle.refl _, rfl⟩⟩⟩⟩
      ·
       have hok : zdd n c l at' place f 2 = true := by simp only [zdd]; rw [hq]; simpa using h3
       refine zC (zD (zf (zh (zg rfl rfl (zV rfl rfl rfl ⟨(by omega), (by omega)⟩) (zg rfl rfl (zi rfl rfl) (zo ?_))))))
       exact ⟨⟨3, by omega, (fun i hi => by rcases (show i = 0 ∨ i = 1 ∨ i = 2 by omega) with rfl | rfl | rfl <;> first | exact hok | exact hinv _ (by omega))⟩, by dsimp only; omega, (by refine zt (mem' := [.row [[I (n.1 + wP l at' place f 0), I (n.2.1 + wP l at' place f 1), I (n.2.2 + wP l at' place f 2)]], .row [[I 0, I 0, I 0]]]) [(2, I (at' : Int)), (3, I (place : Int)), (4, I f), (5, .pub (.ptr (yc c l))), (6, .pp 0 1 0 0), (10, .pp 1 1 0 0), (15, .pub (qN l)), (16, I (l.length : Int)), (17, I 3)] ?_ ?_; exact ⟨rfl, rfl, rfl, rfl, rfl, rfl, rfl, rfl, rfl, trivial⟩; exact (congrArg (fun z => [PO.row [z], .row [[I 0, I 0, I 0]]]) (by first | rw [hW, Int.add_zero] | rw [hW]; rfl | rw [hW])))⟩
     ·
      have hwq := xk (c := c) (at' := at') (place := place) (f := f) (n := n.2.2) hlt hn0 (by rw [hch]; simpa using h2)
      have hW := hwq.1
      have hq := hwq.2
      refine zC (zD (zf (zl ?_)))
      refine qX mixed (by kernel_rfl) rfl ?_
      refine zI rfl (zi rfl rfl) (zI rfl (zJ rfl rfl rfl rfl rfl jZ (by omega) (by omega)) (zI rfl (zK rfl rfl rfl rfl rfl rfl ty3) (zI rfl (zu rfl rfl jK) (zI rfl (zu rfl rfl wo) (zI rfl (zA rfl rfl rfl ty3) (zI rfl (qR rfl rfl rfl) (jw (zf (zx rfl (fun h3 => ?_) (fun h3 => ?_))))))))))
      ·
       refine zl (zh (zg rfl rfl (qO (cs := [_, _, _]) rfl rfl rfl rfl rfl (by exact Nat.le_of_ble_eq_true rfl) rfl jh) (jb rfl (qG rfl rfl rfl rfl rfl rfl (zY rfl) jh (by rfl) (by exact Nat.le_of_ble_eq_true rfl)) (zg rfl rfl (zn rfl rfl) (zo (zf (zP (qF (zQ (zQ (qF ?_)))))))))))
       refine zQ ?_
       exact ⟨.inr rfl, ⟨_, rfl, ⟨_, _, rfl, (jJ rfl rfl rfl rfl jh rfl ⟨_, _, rfl, AVle.top _, ⟨_, _, rfl, AVle.top _, ⟨_, _, rfl, AVle.top _, rfl⟩⟩⟩), ⟨_, _, rfl, AVle.refl _, rfl⟩⟩⟩⟩
      ·
       have hok : zdd n c l at' place f 2 = true := by simp only [zdd]; rw [hq]; simpa using h3
       refine zC (zD (zf (zh (zg rfl rfl (zV rfl rfl rfl ⟨(by omega), (by omega)⟩) (zg rfl rfl (zi rfl rfl) (zo ?_))))))
       exact ⟨⟨3, by omega, (fun i hi => by rcases (show i = 0 ∨ i = 1 ∨ i = 2 by omega) with rfl | rfl | rfl <;> first | exact hok | exact hinv _ (by omega))⟩, by dsimp only; omega, (by refine zt (mem' := [.row [[I (n.1 + wP l at' place f 0), I (n.2.1 + wP l at' place f 1), I (n.2.2 + wP l at' place f 2)]], .row [[I 0, I 0, I 0]]]) [(2, I (at' : Int)), (3, I (place : Int)), (4, I f), (5, .pub (.ptr (yc c l))), (6, .pp 0 1 0 0), (10, .pp 1 1 0 0), (15, .pub (qN l)), (16, I (l.length : Int)), (17, I 3)] ?_ ?_; exact ⟨rfl, rfl, rfl, rfl, rfl, rfl, rfl, rfl, rfl, trivial⟩; exact (congrArg (fun z => [PO.row [z], .row [[I 0, I 0, I 0]]]) (by first | rw [hW, Int.add_zero] | rw [hW]; rfl | rw [hW])))⟩
   ·
    exfalso; have hge : l.length ≤ 2 := by simp at h0; first | omega | simp [h0]
    have : vS c l at' place f n = true := by
     have := hinv
     simp only [vS, Bool.and_eq_true]
     exact ⟨hinv 0 (by omega), hinv 1 (by omega), zaJ (by omega)⟩
    rw [this] at hno; cases hno
  ·
   dsimp only
   refine zl (zh (zg rfl rfl (qi rfl rfl rfl) (zo (zf (zl (zx rfl (fun h0 => ?_) (fun h0 => ?_)))))))
   ·
    exfalso; simp at h0; omega
   ·
    exfalso; have hge : l.length ≤ 3 := by simp at h0; first | omega | simp [h0]
    have : vS c l at' place f n = true := by
     have := hinv
     simp only [vS, Bool.and_eq_true]
     exact ⟨hinv 0 (by omega), hinv 1 (by omega), hinv 2 (by omega)⟩
    rw [this] at hno; cases hno
end Go.Av
end
section
namespace Go.Av
open Go.Proofs
set_option maxRecDepth 100000
set_option maxHeartbeats 1000000
variable {G : Glob}
theorem xw : tyIs Tryz.prog 134 true 4 = true := by kernel_rfl
theorem zrn (b : Bool) : b = false ∨ b = true := by cases b <;> simp
def plX (c : Cod) (l : List (List (List UInt8))) (at' place : Nat) (f : Int) (n : Int × Int × Int) (x : AV) : AV := if vS c l at' place f n then x else .top
theorem f137 (c : Cod) (l : List (List (List UInt8))) (n : Int × Int × Int) (at' place : Nat) (f : Int) (hc : jA c = true) (hl : l.length ≤ 3) (hcp : ∀ g ∈ l, jX c g = true) (hat : at' ≤ c.fields.length) (hpl : place < 5) (hf : 0 ≤ f ∧ f ≤ 9) (hn : 0 ≤ n.1 ∧ n.1 ≤ 1000 ∧ 0 ≤ n.2.1 ∧ n.2.1 ≤ 1000 ∧ 0 ≤ n.2.2 ∧ n.2.2 ≤ 1000) : ACall Tryz.prog G 137 [.agg (yc c l), .agg (eCn n), ei (at' : Int), ei (place : Int), ei f] (.tup [.agg [plX c l at' place f n (ei (plN l at' place f n).1), plX c l at' place f n (ei (plN l at' place f n).2.1), plX c l at' place f n (ei (plN l at' place f n).2.2)], .v (.bool (vS c l at' place f n))]) := by
 cases h : vS c l at' place f n with
 | true =>
  have := zpk (G := G) c l n at' place f hc hl hcp hat hpl hf hn h
  simp only [plX, h, if_true]
  exact this
 | false =>
  have := zpO (G := G) c l n at' place f hc hl hcp hat hpl hf hn h
  simp only [plX, h, Bool.false_eq_true, if_false]
  exact this
def zfd (f : Nat → Bool) (k : Nat) : Nat := ((List.range k).filter f).length
theorem zgH (f : Nat → Bool) (k : Nat) : zfd f (k + 1) = if f k then zfd f k + 1 else zfd f k := by
 unfold zfd
 rw [List.range_succ, List.filter_append]
 cases h : f k <;> simp [h]
theorem zmR {f : Nat → Bool} : ∀ {n k : Nat}, k < n → f k = true → ((List.range n).filter f)[zfd f k]? = some k := by
 intro n
 induction n with
 | zero => intro k h; omega
 | succ n ih =>
  intro k hk hf
  rw [List.range_succ, List.filter_append]
  by_cases h : k < n
  · rw [List.getElem?_append_left]
   · exact ih h hf
   · have := ih h hf
    exact (List.getElem?_eq_some_iff.1 this).1
  · have : k = n := by omega
   subst this
   rw [List.getElem?_append_right (by unfold zfd; omega)]
   simp [zfd, hf]
theorem zlq {P : Program} {C : Cx P G} {ph : Ph} {st st' : ASt} {Q : Exit → Ph → ASt → Prop} (hw : Weak st st') {c : Code} (h : vX C c ph st' Q) : vX C c ph st Q := fun w0 ok0 a w hc hs => h w0 ok0 a w hc (hw w0 ok0 a w hs)
def zaB (c : Cod) (l : List (List (List UInt8))) (at' place : Nat) (n : Int × Int × Int) : List Nat := (List.range 10).filter fun f => vS c l at' place (f : Int) n
def zl3 (c : Cod) (l : List (List (List UInt8))) (at' place : Nat) (n : Int × Int × Int) : List (List AV) := (zaB c l at' place n).map fun (f : Nat) => [ei (f : Int), .agg (eCn (plN l at' place (f : Int) n))]
theorem zp4 {c : Cod} {l : List (List (List UInt8))} {at' place : Nat} {n : Int × Int × Int} {k : Nat} (hk : k < 10) (hb : vS c l at' place (k : Int) n = true) : (zl3 c l at' place n)[zfd (fun f => vS c l at' place (f : Int) n) k]? = some [ei (k : Int), .agg (eCn (plN l at' place (k : Int) n))] := by
 unfold zl3 zaB
 rw [List.getElem?_map, zmR (f := fun f => vS c l at' place (f : Int) n) hk hb]
 rfl
theorem zo0 {c : Cod} {l : List (List (List UInt8))} {at' place : Nat} {n : Int × Int × Int} : (zl3 c l at' place n).length = zfd (fun f => vS c l at' place (f : Int) n) 10 := by simp [zl3, zaB, zfd]
theorem zor {c : Cod} {l : List (List (List UInt8))} {at' place : Nat} {f : Int} {n : Int × Int × Int} (h : vS c l at' place f n = true) : [plX c l at' place f n (ei (plN l at' place f n).1), plX c l at' place f n (ei (plN l at' place f n).2.1), plX c l at' place f n (ei (plN l at' place f n).2.2)] = eCn (plN l at' place f n) := by
 simp only [plX, h, if_true]; rfl
theorem zsk (c : Cod) (l : List (List (List UInt8))) (n : Int × Int × Int) (at' place : Nat) (hc : jA c = true) (hl : l.length ≤ 3) (hcp : ∀ g ∈ l, jX c g = true) (hat : at' ≤ c.fields.length) (hpl : place < 5) (hn : 0 ≤ n.1 ∧ n.1 ≤ 1000 ∧ 0 ≤ n.2.1 ∧ n.2.1 ≤ 1000 ∧ 0 ≤ n.2.2 ∧ n.2.2 ≤ 1000) : zlb Tryz.prog G 166 [] [.ptr (yc c l), .ptr (eCn n), .ptr [ei (at' : Int)], .ptr [ei (place : Int)]] (zl3 c l at' place n) := by
 refine zp5 (qs := (zl3 c l at' place n)) Tryz.func166 rfl (by kernel_rfl) rfl rfl (fun C hC => ?_)
 refine zcr ?_
 refine zgx ?_
 refine zh (zg rfl rfl (zi rfl rfl) (zo ?_))
 refine vT ?_
 refine zjC ?_
 refine zpn (ι := { k : Nat // k ≤ 10 }) (fun k => ⟨Tryz.f166.ntmps, frL [(0, .pub (.v (.func (.yield C.l) #[] #[]))), (1, .pub (.ptr (yc c l))), (2, .pub (.ptr (eCn n))), (3, .pub (.ptr [ei (at' : Int)])), (4, .pub (.ptr [ei (place : Int)])), (9, I (k.1 : Int))], []⟩) (fun k => .on (zfd (fun f => vS c l at' place (f : Int) n) k.1)) (fun k => 10 - k.1) (⟨0, by omega⟩) rfl ?_ ?_
 ·
  exact zt _ ⟨rfl, rfl, rfl, rfl, rfl, rfl, trivial⟩ (rfl)
 ·
  rintro ⟨k, hk⟩
  dsimp only
  refine zcr ?_
  refine zgx ?_
  refine zh (zg rfl rfl (qi rfl rfl rfl) (zo ?_))
  refine vT ?_
  refine zcr ?_
  refine zeo rfl (fun h0 => ?_) (fun h0 => ?_)
  ·
   have hlt : k < 10 := by simp at h0; omega
   refine zh5 ?_
   refine vT ?_
   refine zcr ?_
   refine zjC ?_
   refine zcr ?_
   refine zgx ?_
   refine zh (zg rfl rfl (zi rfl rfl) (zg rfl rfl (zn rfl rfl) (zo ?_)))
   refine vT ?_
   refine zcr ?_
   refine zgx ?_
   refine zh (zg rfl rfl (zZ rfl rfl xw (by exact Nat.le_of_ble_eq_true rfl)) (zg rfl rfl (zZ rfl rfl jh (by exact Nat.le_of_ble_eq_true rfl)) (zg rfl rfl (zA rfl rfl rfl ty3) (zg rfl rfl (zA rfl rfl rfl ty3) (zg rfl rfl (zi rfl rfl) (zg rfl rfl (zy (av := [_, _, _, _, _]) rfl ⟨rfl, rfl, rfl, rfl, rfl, trivial⟩ (f137 c l n at' place (k : Int) hc hl hcp hat hpl (by omega) hn)) (zg rfl rfl (zq rfl rfl) (zg rfl rfl (zN rfl rfl rfl) (zg rfl rfl (zN rfl rfl rfl) ?_)))))))))
   refine vG  rfl rfl rfl rfl rfl rfl rfl zi3 jh rfl (by rfl) (zY rfl) rfl ?_
   refine zg rfl rfl (zn rfl rfl) (zo ?_)
   refine vT ?_
   refine zcr ?_
   refine Or.elim (zrn (vS c l at' place (k : Int) n)) (fun hb => ?_) (fun hb => ?_)
   ·
    refine zlq (zt (mem' := []) [(0, .pub (.v (.func (.yield C.l) #[] #[]))), (1, .pub (.ptr (yc c l))), (2, .pub (.ptr (eCn n))), (3, .pub (.ptr [ei (at' : Int)])), (4, .pub (.ptr [ei (place : Int)])), (6, I (k : Int)), (8, B false), (9, I (k : Int))] ⟨rfl, rfl, rfl, rfl, rfl, rfl, congrArg B hb, rfl, trivial⟩ rfl) ?_
    refine zgT ?_
    refine zjO rfl rfl (zi rfl rfl) ?_
    refine zjO rfl rfl (zi rfl rfl) ?_
    refine yL (x := .pub .top) rfl rfl rfl (fun h => absurd h (by decide)) ?_
    refine yL (x := .pub .top) rfl rfl rfl (fun h => absurd h (by decide)) ?_
    refine yL (x := .pub .top) rfl rfl rfl (fun h => absurd h (by decide)) ?_
    refine ziO (q := []) (c := false) rfl rfl rfl rfl (fun h => absurd h (by decide)) (fun h => absurd h (by decide)) (fun h => absurd h (by decide)) rfl rfl rfl rfl rfl (fun _ => ?_) (fun h => absurd h (by decide)) (fun h => absurd h (by decide))
    refine yL (x := .pub .top) rfl rfl rfl (fun h => absurd h (by decide)) ?_
    refine zjO rfl rfl (zU rfl rfl (fun h => absurd h (by decide)) (fun _ => rfl)) ?_
    refine zkQ ?_
    refine vT ?_
    refine zeo (b := false) rfl (fun h => absurd h (by decide)) (fun _ => ?_)
    refine zh5 ?_
    refine zgk ?_
    refine vT ?_
    refine zgx ?_
    refine zh (zg rfl rfl (zV rfl rfl rfl ⟨(by omega), (by omega)⟩) (zg rfl rfl (zi rfl rfl) (zo ?_)))
    exact ⟨⟨k + 1, by omega⟩, by dsimp only; omega, by simp only [zgH, hb]; rfl, zt _ ⟨rfl, rfl, rfl, rfl, rfl, rfl, trivial⟩ rfl⟩
   ·
    refine zlq (zt (mem' := []) [(0, .pub (.v (.func (.yield C.l) #[] #[]))), (1, .pub (.ptr (yc c l))), (2, .pub (.ptr (eCn n))), (3, .pub (.ptr [ei (at' : Int)])), (4, .pub (.ptr [ei (place : Int)])), (6, I (k : Int)), (7, .pub (.ptr (eCn (plN l at' place (k : Int) n)))), (8, B true), (9, I (k : Int))] ⟨rfl, rfl, rfl, rfl, rfl, rfl, (congrArg (fun z => EV.pub (.ptr z)) (zor hb)), congrArg B hb, rfl, trivial⟩ rfl) ?_
    refine zgT ?_
    refine zjO rfl rfl (zi rfl rfl) ?_
    refine zjO rfl rfl (zi rfl rfl) ?_
    refine yL rfl rfl rfl (fun _ => zi rfl rfl) ?_
    refine yL rfl rfl rfl (fun _ => zi rfl rfl) ?_
    refine yL rfl rfl rfl (fun _ => zZ rfl rfl jh (by exact Nat.le_of_ble_eq_true rfl)) ?_
    refine ziO (q := [ei (k : Int), .agg (eCn (plN l at' place (k : Int) n))]) (c := true) rfl rfl rfl rfl (fun _ => rfl) (fun _ => rfl) (fun _ => by rw [hC]; exact zp4 (by omega) hb) rfl rfl rfl rfl rfl (fun h => absurd h (by decide)) (fun _ => ?_) (fun _ => ?_)
    ·
     refine yL rfl rfl rfl (fun _ => je rfl rfl) ?_
     refine zjO rfl rfl (zU rfl rfl (fun _ => rfl) (fun h => absurd h (by decide))) ?_
     refine zkQ ?_
     refine vT ?_
     refine zeo (b := false) rfl (fun h => absurd h (by decide)) (fun _ => ?_)
     refine zh5 ?_
     refine zgk ?_
     refine vT ?_
     refine zgx ?_
     refine zh (zg rfl rfl (zV rfl rfl rfl ⟨(by omega), (by omega)⟩) (zg rfl rfl (zi rfl rfl) (zo ?_)))
     exact ⟨⟨k + 1, by omega⟩, by dsimp only; omega, by simp only [zgH, hb]; rfl, zt _ ⟨rfl, rfl, rfl, rfl, rfl, rfl, trivial⟩ rfl⟩
    ·
     refine yL rfl rfl rfl (fun _ => je rfl rfl) ?_
     refine zjO rfl rfl (zU rfl rfl (fun _ => rfl) (fun h => absurd h (by decide))) ?_
     refine zkQ ?_
     refine vT ?_
     refine zeo (b := true) rfl (fun _ => ?_) (fun h => absurd h (by decide))
     refine zri ?_
     refine zoo ?_
     refine znW ?_
     refine znW ?_
     refine zoo ?_
     exact ⟨.inr rfl, rfl, .inr ⟨_, rfl⟩⟩
  ·
   have hge : 10 ≤ k := by simp at h0; omega
   refine zqs ?_
   refine zlk ?_
   refine zlk ?_
   refine zqp ?_
   exact ⟨.inl rfl, rfl, .inl (by rw [zo0, show 10 = k from by omega])⟩
theorem f138 (c : Cod) (l : List (List (List UInt8))) (n : Int × Int × Int) (at' place : Int) : ACall Tryz.prog G 138 [.agg (yc c l), .agg (eCn n), ei at', ei place] (.fn 166 [] [.ptr (yc c l), .ptr (eCn n), .ptr [ei at'], .ptr [ei place]]) := by
 refine zS Tryz.func138 rfl (by kernel_rfl) rfl ?_
 refine zl (zh (zg rfl rfl (jf rfl (zY rfl)) (zg rfl rfl (jf rfl (zY rfl)) (zg rfl rfl (jf (cs := [_]) rfl (jG rfl)) (zg rfl rfl (jf (cs := [_]) rfl (jG rfl)) (zg rfl rfl (zn rfl rfl) (zo (zf (zl (zh (zg rfl rfl (zcG (fs := []) (cs := [_, _, _, _]) rfl rfl rfl) ?_)))))))))))
 refine zg rfl rfl (zW rfl rfl) (zo (zf (zP ?_)))
 exact ⟨.inr rfl, AVle.refl _⟩
end Go.Av
end
