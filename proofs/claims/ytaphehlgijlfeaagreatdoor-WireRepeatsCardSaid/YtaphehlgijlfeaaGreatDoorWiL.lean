/- plus. · The figures that can be. -/
import Derived.Test.YtaphehlgijlfeaaGreatDoorWiJ
import Derived.Test.YtaphehlgijlfeaaGreatDoorPlatE
set_option linter.unusedVariables false
set_option linter.unusedSimpArgs false
section
namespace Go.Av
open Go.Proofs
set_option maxRecDepth 100000
set_option maxHeartbeats 1000000
set_option linter.unusedSimpArgs false
variable {G : Glob}
theorem zv185 : (Tryz.prog.info? 185).bind (·.zero) = some (.agg #[.int .i64 0, .int .i64 0, .int .i64 0]) := by kernel_rfl
theorem fld134_1 : fldIs Tryz.prog 134 1 3 = true := by kernel_rfl
theorem ty26 : tyIs Tryz.prog 26 false 1 = true := by kernel_rfl
theorem slc26 : slcIs Tryz.prog 26 1 = true := by kernel_rfl
theorem ty34 : tyIs Tryz.prog 34 false 1 = true := by kernel_rfl
theorem fld134_0 : fldIs Tryz.prog 134 0 0 = true := by kernel_rfl
theorem arr185 : arrIs Tryz.prog 185 3 1 = true := by kernel_rfl
theorem ty185 : tyIs Tryz.prog 185 true 3 = true := by kernel_rfl

def eRec (c : Cod) (l : List (List (List UInt8))) : List AV := [.sl (c.fields.map eSpn), eInts c.turns, .v (.int .i64 c.most), eCps l]
def chF (g : List (List UInt8)) (at' place : Nat) : Int := (((g.getD at' []).getD place 0).toNat : Int)
theorem cps_at {l : List (List (List UInt8))} {k : Nat} (h : k < l.length) : (l.map fun g => [eStrs g])[k]? = some [eStrs l[k]] := by simp [h]
theorem cps_len {l : List (List (List UInt8))} : ∀ q ∈ l.map (fun g => [eStrs g]), q.length = 1 := by simp
theorem copF_at {c : Cod} {g : List (List UInt8)} {at' place : Nat} (h : copB c g = true) (h1 : at' ≤ c.fields.length) (h2 : place < 5) : ∃ (x : at' < g.length) (y : place < g[at'].length), chF g at' place = (g[at'][place].toNat : Int) ∧ 48 ≤ chF g at' place ∧ chF g at' place ≤ 63 := by
  simp only [copB, Bool.and_eq_true, List.all_eq_true, beq_iff_eq] at h
  have x : at' < g.length := by omega
  have h3 := h.1 _ (List.getElem_mem x)
  have h5 := ofB_len h3
  have y : place < g[at'].length := by omega
  have e : chF g at' place = (g[at'][place].toNat : Int) := by
    unfold chF
    have e1 : g.getD at' [] = g[at'] := by rw [List.getD_eq_getElem?_getD, List.getElem?_eq_getElem x, Option.getD_some]
    rw [e1, List.getD_eq_getElem?_getD, List.getElem?_eq_getElem y, Option.getD_some]
  have h6 := ofB_at h3 y
  refine ⟨x, y, e, ?_⟩
  rw [e]
  simp only [copR, figR, holR, Bool.or_eq_true, Bool.and_eq_true, decide_eq_true_eq] at h6
  omega
def wP (l : List (List (List UInt8))) (at' place : Nat) (f : Int) (i : Nat) : Int := if h : i < l.length then wrN (chF l[i] at' place, f) else 0
def okQ (c : Cod) (l : List (List (List UInt8))) (at' place : Nat) (f : Int) (i : Nat) (n : Int) : Bool := if h : i < l.length then okP c (chF l[i] at' place, f) && decide (n + wrN (chF l[i] at' place, f) ≤ c.most) else true
def plOk (c : Cod) (l : List (List (List UInt8))) (at' place : Nat) (f : Int) (n : Int × Int × Int) : Bool := okQ c l at' place f 0 n.1 && (okQ c l at' place f 1 n.2.1 && okQ c l at' place f 2 n.2.2)
def plN (l : List (List (List UInt8))) (at' place : Nat) (f : Int) (n : Int × Int × Int) : Int × Int × Int := (n.1 + wP l at' place f 0, n.2.1 + wP l at' place f 1, n.2.2 + wP l at' place f 2)
def eCn (n : Int × Int × Int) : List AV := [ei n.1, ei n.2.1, ei n.2.2]
theorem wP_bd (l : List (List (List UInt8))) (at' place : Nat) (f : Int) (i : Nat) : 0 ≤ wP l at' place f i ∧ wP l at' place f i ≤ 1 := by
  unfold wP wrN; split
  · split <;> omega
  · omega
theorem wP_big {l : List (List (List UInt8))} {at' place : Nat} {f : Int} {i : Nat} (h : l.length ≤ i) : wP l at' place f i = 0 := by unfold wP; rw [dif_neg (by omega)]
theorem okQ_big {c : Cod} {l : List (List (List UInt8))} {at' place : Nat} {f : Int} {i : Nat} {n : Int} (h : l.length ≤ i) : okQ c l at' place f i n = true := by unfold okQ; rw [dif_neg (by omega)]
theorem how_cases (c : Cod) (ch f : Int) : (howI c ch f = 1 ∧ rgt ch f = true) ∨ (howI c ch f = 2 ∧ rgt ch f = false ∧ wrg c ch f = true) ∨ (howI c ch f = 0 ∧ rgt ch f = false ∧ wrg c ch f = false) := by
  unfold howI
  cases h1 : rgt ch f with
  | true => simp
  | false => cases h2 : wrg c ch f <;> simp
theorem how_never {c : Cod} {l : List (List (List UInt8))} {at' place : Nat} {f n : Int} {i : Nat} (h : i < l.length) (hh : howI c (chF l[i] at' place) f = 0) : okQ c l at' place f i n = false := by
  rcases how_cases c (chF l[i] at' place) f with ⟨h1, _⟩ | ⟨h1, _⟩ | ⟨_, h1, h2⟩
  · omega
  · omega
  · unfold okQ; rw [dif_pos h]; simp [okP, h1, h2]
theorem how_wrong {c : Cod} {l : List (List (List UInt8))} {at' place : Nat} {f n : Int} {i : Nat} (h : i < l.length) (hh : howI c (chF l[i] at' place) f = 2) : wP l at' place f i = 1 ∧ okQ c l at' place f i n = decide (n + 1 ≤ c.most) := by
  rcases how_cases c (chF l[i] at' place) f with ⟨h1, _⟩ | ⟨_, h1, h2⟩ | ⟨h1, _⟩
  · omega
  · unfold wP okQ; rw [dif_pos h, dif_pos h]; simp [okP, wrN, h1, h2]
  · omega
theorem how_right {c : Cod} {l : List (List (List UInt8))} {at' place : Nat} {f n : Int} {i : Nat} (h : i < l.length) (h0 : howI c (chF l[i] at' place) f ≠ 0) (h2 : howI c (chF l[i] at' place) f ≠ 2) : wP l at' place f i = 0 ∧ okQ c l at' place f i n = decide (n ≤ c.most) := by
  rcases how_cases c (chF l[i] at' place) f with ⟨_, h1⟩ | ⟨h1, _⟩ | ⟨h1, _⟩
  · unfold wP okQ; rw [dif_pos h, dif_pos h]; simp [okP, wrN, h1]
  · omega
  · omega

def okM3 (n : Int × Int × Int) (c : Cod) (l : List (List (List UInt8))) (at' place : Nat) (f : Int) : Nat → Bool
  | 0 => okQ c l at' place f 0 n.1
  | 1 => okQ c l at' place f 1 n.2.1
  | _ => okQ c l at' place f 2 n.2.2
theorem plOk_all {n : Int × Int × Int} {c : Cod} {l : List (List (List UInt8))} {at' place : Nat} {f : Int} (h : plOk c l at' place f n = true) : ∀ i, i < 3 → okM3 n c l at' place f i = true := fun i hi => by
  simp only [plOk, Bool.and_eq_true] at h
  match i, hi with
  | 0, _ => exact h.1
  | 1, _ => exact h.2.1
  | 2, _ => exact h.2.2

theorem pN0_0 {l : List (List (List UInt8))} {at' place : Nat} {f : Int} {n : Int × Int × Int} (_h : l.length ≤ 0) (_ : 0 ≤ 1) : ei (n.1) = ei ((plN l at' place f n).1) := by
  unfold plN; simp only; rw [wP_big (by omega), Int.add_zero]

theorem pN1_0 {l : List (List (List UInt8))} {at' place : Nat} {f : Int} {n : Int × Int × Int} (_h : l.length ≤ 0) (_ : 0 ≤ 1) : ei (n.2.1) = ei ((plN l at' place f n).2.1) := by
  unfold plN; simp only; rw [wP_big (by omega), Int.add_zero]

theorem pN2_0 {l : List (List (List UInt8))} {at' place : Nat} {f : Int} {n : Int × Int × Int} (_h : l.length ≤ 0) (_ : 0 ≤ 1) : ei (n.2.2) = ei ((plN l at' place f n).2.2) := by
  unfold plN; simp only; rw [wP_big (by omega), Int.add_zero]

theorem pN0_1 {l : List (List (List UInt8))} {at' place : Nat} {f : Int} {n : Int × Int × Int} (_h : l.length ≤ 1) (_ : 0 ≤ 1) : ei (n.1 + wP l at' place f 0) = ei ((plN l at' place f n).1) := by
  rfl

theorem pN1_1 {l : List (List (List UInt8))} {at' place : Nat} {f : Int} {n : Int × Int × Int} (_h : l.length ≤ 1) (_ : 0 ≤ 1) : ei (n.2.1) = ei ((plN l at' place f n).2.1) := by
  unfold plN; simp only; rw [wP_big (by omega), Int.add_zero]

theorem pN2_1 {l : List (List (List UInt8))} {at' place : Nat} {f : Int} {n : Int × Int × Int} (_h : l.length ≤ 1) (_ : 0 ≤ 1) : ei (n.2.2) = ei ((plN l at' place f n).2.2) := by
  unfold plN; simp only; rw [wP_big (by omega), Int.add_zero]

theorem pN0_2 {l : List (List (List UInt8))} {at' place : Nat} {f : Int} {n : Int × Int × Int} (_h : l.length ≤ 2) (_ : 0 ≤ 1) : ei (n.1 + wP l at' place f 0) = ei ((plN l at' place f n).1) := by
  rfl

theorem pN1_2 {l : List (List (List UInt8))} {at' place : Nat} {f : Int} {n : Int × Int × Int} (_h : l.length ≤ 2) (_ : 0 ≤ 1) : ei (n.2.1 + wP l at' place f 1) = ei ((plN l at' place f n).2.1) := by
  rfl

theorem pN2_2 {l : List (List (List UInt8))} {at' place : Nat} {f : Int} {n : Int × Int × Int} (_h : l.length ≤ 2) (_ : 0 ≤ 1) : ei (n.2.2) = ei ((plN l at' place f n).2.2) := by
  unfold plN; simp only; rw [wP_big (by omega), Int.add_zero]

theorem pN0_3 {l : List (List (List UInt8))} {at' place : Nat} {f : Int} {n : Int × Int × Int} (_h : l.length ≤ 3) (_ : 0 ≤ 1) : ei (n.1 + wP l at' place f 0) = ei ((plN l at' place f n).1) := by
  rfl

theorem pN1_3 {l : List (List (List UInt8))} {at' place : Nat} {f : Int} {n : Int × Int × Int} (_h : l.length ≤ 3) (_ : 0 ≤ 1) : ei (n.2.1 + wP l at' place f 1) = ei ((plN l at' place f n).2.1) := by
  rfl

theorem pN2_3 {l : List (List (List UInt8))} {at' place : Nat} {f : Int} {n : Int × Int × Int} (_h : l.length ≤ 3) (_ : 0 ≤ 1) : ei (n.2.2 + wP l at' place f 2) = ei ((plN l at' place f n).2.2) := by
  rfl

theorem f137_ok (c : Cod) (l : List (List (List UInt8))) (n : Int × Int × Int) (at' place : Nat) (f : Int) (hc : codB c = true) (hl : l.length ≤ 3) (hcp : ∀ g ∈ l, copB c g = true) (hat : at' ≤ c.fields.length) (hpl : place < 5) (hf : 0 ≤ f ∧ f ≤ 9) (hn : 0 ≤ n.1 ∧ n.1 ≤ 1000 ∧ 0 ≤ n.2.1 ∧ n.2.1 ≤ 1000 ∧ 0 ≤ n.2.2 ∧ n.2.2 ≤ 1000) (hyes : plOk c l at' place f n = true) : ACall Tryz.prog G 137 [.agg (eRec c l), .agg (eCn n), ei (at' : Int), ei (place : Int), ei f] (.tup [.agg (eCn (plN l at' place f n)), .v (.bool true)]) := by
 have hb0 := wP_bd l at' place f 0
 have hb1 := wP_bd l at' place f 1
 have hb2 := wP_bd l at' place f 2
 have hall := plOk_all hyes
 refine acall_of Tryz.func137 rfl (by kernel_rfl) rfl ?_
 refine ac_seq ?_
 refine ac_region ?_
 refine al_y rfl rfl (y_box rfl (cE_agg rfl)) ?_
 refine al_m rfl (m_box rfl rfl (cE_agg rfl)) ?_
 refine al_m rfl (m_alloc rfl rfl zv185 rfl rfl) ?_
 refine al_y rfl rfl (y_assignV rfl rfl) ?_
 refine al_nil ?_
 refine qt_normal ?_
 refine ac_seq ?_
 refine ac_seq ?_
 refine ac_region ?_
 refine al_y rfl rfl (y_fieldAddr rfl rfl fld134_1) ?_
 refine al_y rfl rfl (y_load1 rfl rfl rfl ty26) ?_
 refine al_y rfl rfl (y_len rfl rfl rfl Tryz.underlying26) ?_
 refine al_y rfl rfl (y_moveV rfl rfl) ?_
 refine al_nil ?_
 refine qt_normal ?_
 refine ac_block ?_
 refine ac_loop (ι := { k : Nat // k < 4 }) (fun k => match k.1 with | 0 => ⟨Tryz.f137.ntmps, frL [(2, I (at' : Int)), (3, I (place : Int)), (4, I f), (5, .pub (.ptr (eRec c l))), (6, .pp 0 1 0 0), (10, .pp 1 1 0 0), (15, .pub (eCps l)), (16, I (l.length : Int)), (17, I 0)], [.row [[I n.1, I n.2.1, I n.2.2]], .row [[I 0, I 0, I 0]]]⟩ | 1 => ⟨Tryz.f137.ntmps, frL [(2, I (at' : Int)), (3, I (place : Int)), (4, I f), (5, .pub (.ptr (eRec c l))), (6, .pp 0 1 0 0), (10, .pp 1 1 0 0), (15, .pub (eCps l)), (16, I (l.length : Int)), (17, I 1)], [.row [[I (n.1 + wP l at' place f 0), I n.2.1, I n.2.2]], .row [[I 0, I 0, I 0]]]⟩ | 2 => ⟨Tryz.f137.ntmps, frL [(2, I (at' : Int)), (3, I (place : Int)), (4, I f), (5, .pub (.ptr (eRec c l))), (6, .pp 0 1 0 0), (10, .pp 1 1 0 0), (15, .pub (eCps l)), (16, I (l.length : Int)), (17, I 2)], [.row [[I (n.1 + wP l at' place f 0), I (n.2.1 + wP l at' place f 1), I n.2.2]], .row [[I 0, I 0, I 0]]]⟩ | _ => ⟨Tryz.f137.ntmps, frL [(2, I (at' : Int)), (3, I (place : Int)), (4, I f), (5, .pub (.ptr (eRec c l))), (6, .pp 0 1 0 0), (10, .pp 1 1 0 0), (15, .pub (eCps l)), (16, I (l.length : Int)), (17, I 3)], [.row [[I (n.1 + wP l at' place f 0), I (n.2.1 + wP l at' place f 1), I (n.2.2 + wP l at' place f 2)]], .row [[I 0, I 0, I 0]]]⟩) (fun k => 4 - k.1) (⟨0, by omega⟩) ?_ ?_
 ·
  exact weak_frM _ ⟨rfl, rfl, rfl, rfl, rfl, rfl, rfl, (congrArg (fun x : Nat => I (x : Int)) (List.length_map _)), rfl, trivial⟩ (rfl)
 ·
  rintro ⟨k, hk⟩
  have hk3 : k = 0 ∨ k = 1 ∨ k = 2 ∨ k = 3 := by omega
  rcases hk3 with rfl | rfl | rfl | rfl
  ·
   dsimp only
   refine ac_seq ?_
   refine ac_region ?_
   refine al_y rfl rfl (y_lss rfl rfl rfl) ?_
   refine al_nil ?_
   refine qt_normal ?_
   refine ac_seq ?_
   refine ac_cond rfl (fun h0 => ?_) (fun h0 => ?_)
   ·
    have hlt : 0 < l.length := by simp at h0; omega
    obtain ⟨hx, hy, hch, hc1, hc2⟩ := copF_at (hcp _ (List.getElem_mem hlt)) hat hpl
    refine ac_skip ?_
    refine qt_normal ?_
    refine ac_seq ?_
    refine ac_block ?_
    refine ac_seq ?_
    refine ac_region ?_
    refine al_y rfl rfl (y_moveV rfl rfl) ?_
    refine al_y rfl rfl (y_indexAddr rfl rfl rfl slc26 (by omega) (cps_at hlt) cps_len) ?_
    refine al_y rfl rfl (y_load1 rfl rfl rfl ty34) ?_
    refine al_y rfl rfl (y_assignV rfl rfl) ?_
    refine al_y rfl rfl (y_assignP rfl rfl) ?_
    refine al_nil ?_
    refine qt_normal ?_
    refine ac_seq ?_
    refine ac_seq ?_
    refine ac_draw mixed (by kernel_rfl) rfl ?_
    refine aq_y rfl (y_fieldAddr rfl rfl fld134_0) ?_
    refine aq_y rfl (y_loadN rfl rfl ty25 (by exact Nat.le_of_ble_eq_true rfl)) ?_
    refine aq_y rfl (y_moveP rfl rfl) ?_
    refine aq_y rfl (y_moveV rfl rfl) ?_
    refine aq_y rfl (y_indexAddr rfl rfl rfl slc34 (by omega) (str_at hx) str_len) ?_
    refine aq_y rfl (y_load1 rfl rfl rfl ty9) ?_
    refine aq_y rfl (y_moveV rfl rfl) ?_
    refine aq_y rfl (y_index_SL rfl rfl rfl Tryz.underlying9 (by omega) (by rw [Int.toNat_natCast]; exact List.getElem?_eq_getElem hy)) ?_
    refine aq_y rfl (y_moveV rfl rfl) ?_
    refine aq_y rfl (y_callF (av := [_, _, _]) rfl ⟨rfl, rfl, rfl, trivial⟩ (hch ▸ f119 c _ f hc ⟨hc1, hc2⟩ hf)) ?_
    refine aq_nil ?_
    refine qt_normal ?_
    refine ac_block ?_
    refine ac_seq ?_
    refine ac_region ?_
    refine al_y rfl rfl (y_eql rfl rfl rfl) ?_
    refine al_y rfl rfl (y_assignV rfl rfl) ?_
    refine al_nil ?_
    refine qt_normal ?_
    refine ac_cond rfl (fun h1 => ?_) (fun h1 => ?_)
    ·
     exfalso; have hq := how_never (c := c) (at' := at') (place := place) (f := f) (n := n.1) hlt (by rw [hch]; simpa using h1); have := (hall 0 (by omega)).symm.trans hq; cases this
    ·
     have hn0 : howI c (chF l[0] at' place) f ≠ 0 := by rw [hch]; simpa using h1
     refine ac_seq ?_
     refine ac_region ?_
     refine al_y rfl rfl (y_eql rfl rfl rfl) ?_
     refine al_y rfl rfl (y_assignV rfl rfl) ?_
     refine al_nil ?_
     refine qt_normal ?_
     refine ac_cond rfl (fun h2 => ?_) (fun h2 => ?_)
     ·
      have hwq := how_wrong (c := c) (at' := at') (place := place) (f := f) (n := n.1) hlt (by rw [hch]; simpa using h2)
      have hW := hwq.1
      have hq := hwq.2
      refine ac_region ?_
      refine al_y rfl rfl (y_moveV rfl rfl) ?_
      refine al_y rfl rfl (y_indexAddr_arrp rfl rfl rfl rfl rfl arr185 (by omega) (by omega)) ?_
      refine al_y rfl rfl (y_load_pp1 rfl rfl rfl rfl rfl rfl ty3) ?_
      refine al_y rfl rfl (y_add rfl rfl rfl ⟨(by omega), (by omega)⟩) ?_
      refine al_y rfl rfl (y_indexAddr_arrp rfl rfl rfl rfl rfl arr185 (by omega) (by omega)) ?_
      refine al_m rfl (m_store rfl rfl rfl rfl rfl rfl (cE_v rfl) ty3 (by rfl) (by exact Nat.le_of_ble_eq_true rfl)) ?_
      refine al_nil ?_
      refine qb_normal ?_
      refine qt_normal ?_
      refine ac_seq ?_
      refine ac_draw mixed (by kernel_rfl) rfl ?_
      refine aq_y rfl (y_moveV rfl rfl) ?_
      refine aq_y rfl (y_indexAddr_arrp rfl rfl rfl rfl rfl arr185 (by omega) (by omega)) ?_
      refine aq_y rfl (y_load_pp1 rfl rfl rfl rfl rfl rfl ty3) ?_
      refine aq_y rfl (y_fieldAddr rfl rfl fld134_0) ?_
      refine aq_y rfl (y_fieldAddr rfl rfl fld25_2) ?_
      refine aq_y rfl (y_load1 rfl rfl rfl ty3) ?_
      refine aq_y rfl (y_gtr rfl rfl rfl) ?_
      refine aq_nil ?_
      refine qt_normal ?_
      refine ac_cond rfl (fun h3 => ?_) (fun h3 => ?_)
      ·
       exfalso; have := hq.symm.trans (hall 0 (by omega)); simp at this h3; omega
      ·
       have hok : True := trivial
       refine ac_skip ?_
       refine qb_normal ?_
       refine qt_normal ?_
       refine ac_region ?_
       refine al_y rfl rfl (y_add rfl rfl rfl ⟨(by omega), (by omega)⟩) ?_
       refine al_y rfl rfl (y_moveV rfl rfl) ?_
       refine al_nil ?_
       exact ⟨⟨1, by omega⟩, by dsimp only; omega, (by refine weak_frM (mem' := [.row [[I (n.1 + wP l at' place f 0), I n.2.1, I n.2.2]], .row [[I 0, I 0, I 0]]]) [(2, I (at' : Int)), (3, I (place : Int)), (4, I f), (5, .pub (.ptr (eRec c l))), (6, .pp 0 1 0 0), (10, .pp 1 1 0 0), (15, .pub (eCps l)), (16, I (l.length : Int)), (17, I 1)] ?_ ?_; exact ⟨rfl, rfl, rfl, rfl, rfl, rfl, rfl, rfl, rfl, trivial⟩; exact (congrArg (fun z => [PO.row [z], .row [[I 0, I 0, I 0]]]) (by first | rw [hW, Int.add_zero] | rw [hW]; rfl | rw [hW])))⟩
     ·
      have hwq := how_right (c := c) (at' := at') (place := place) (f := f) (n := n.1) hlt hn0 (by rw [hch]; simpa using h2)
      have hW := hwq.1
      have hq := hwq.2
      refine ac_skip ?_
      refine qb_normal ?_
      refine qt_normal ?_
      refine ac_seq ?_
      refine ac_draw mixed (by kernel_rfl) rfl ?_
      refine aq_y rfl (y_moveV rfl rfl) ?_
      refine aq_y rfl (y_indexAddr_arrp rfl rfl rfl rfl rfl arr185 (by omega) (by omega)) ?_
      refine aq_y rfl (y_load_pp1 rfl rfl rfl rfl rfl rfl ty3) ?_
      refine aq_y rfl (y_fieldAddr rfl rfl fld134_0) ?_
      refine aq_y rfl (y_fieldAddr rfl rfl fld25_2) ?_
      refine aq_y rfl (y_load1 rfl rfl rfl ty3) ?_
      refine aq_y rfl (y_gtr rfl rfl rfl) ?_
      refine aq_nil ?_
      refine qt_normal ?_
      refine ac_cond rfl (fun h3 => ?_) (fun h3 => ?_)
      ·
       exfalso; have := hq.symm.trans (hall 0 (by omega)); simp at this h3; omega
      ·
       have hok : True := trivial
       refine ac_skip ?_
       refine qb_normal ?_
       refine qt_normal ?_
       refine ac_region ?_
       refine al_y rfl rfl (y_add rfl rfl rfl ⟨(by omega), (by omega)⟩) ?_
       refine al_y rfl rfl (y_moveV rfl rfl) ?_
       refine al_nil ?_
       exact ⟨⟨1, by omega⟩, by dsimp only; omega, (by refine weak_frM (mem' := [.row [[I (n.1 + wP l at' place f 0), I n.2.1, I n.2.2]], .row [[I 0, I 0, I 0]]]) [(2, I (at' : Int)), (3, I (place : Int)), (4, I f), (5, .pub (.ptr (eRec c l))), (6, .pp 0 1 0 0), (10, .pp 1 1 0 0), (15, .pub (eCps l)), (16, I (l.length : Int)), (17, I 1)] ?_ ?_; exact ⟨rfl, rfl, rfl, rfl, rfl, rfl, rfl, rfl, rfl, trivial⟩; exact (congrArg (fun z => [PO.row [z], .row [[I 0, I 0, I 0]]]) (by first | rw [hW, Int.add_zero] | rw [hW]; rfl | rw [hW])))⟩
   ·
    have hge : l.length ≤ 0 := by simp at h0; first | omega | simp [h0]
    refine ac_exit ?_
    refine qt_exit ?_
    refine qt_exit ?_
    refine qb_exit ?_
    refine qt_normal ?_
    refine ac_seq ?_
    refine ac_region ?_
    refine al_y rfl rfl (y_load_ppA (cs := [_, _, _]) rfl rfl rfl rfl rfl (by exact Nat.le_of_ble_eq_true rfl) rfl ty185) ?_
    refine al_m rfl (m_store rfl rfl rfl rfl rfl rfl (cE_agg rfl) ty185 (by rfl) (by exact Nat.le_of_ble_eq_true rfl)) ?_
    refine al_y rfl rfl (y_assignV rfl rfl) ?_
    refine al_nil ?_
    refine qt_normal ?_
    refine ac_ret ?_
    exact ⟨.inr rfl, ⟨_, rfl, ⟨_, _, rfl, (res_cell rfl rfl rfl rfl ty185 rfl ⟨_, _, rfl, AVle.of (pN0_0 hge (by omega)), ⟨_, _, rfl, AVle.of (pN1_0 hge (by omega)), ⟨_, _, rfl, AVle.of (pN2_0 hge (by omega)), rfl⟩⟩⟩), ⟨_, _, rfl, AVle.refl _, rfl⟩⟩⟩⟩
  ·
   dsimp only
   refine ac_seq ?_
   refine ac_region ?_
   refine al_y rfl rfl (y_lss rfl rfl rfl) ?_
   refine al_nil ?_
   refine qt_normal ?_
   refine ac_seq ?_
   refine ac_cond rfl (fun h0 => ?_) (fun h0 => ?_)
   ·
    have hlt : 1 < l.length := by simp at h0; omega
    obtain ⟨hx, hy, hch, hc1, hc2⟩ := copF_at (hcp _ (List.getElem_mem hlt)) hat hpl
    refine ac_skip ?_
    refine qt_normal ?_
    refine ac_seq ?_
    refine ac_block ?_
    refine ac_seq ?_
    refine ac_region ?_
    refine al_y rfl rfl (y_moveV rfl rfl) ?_
    refine al_y rfl rfl (y_indexAddr rfl rfl rfl slc26 (by omega) (cps_at hlt) cps_len) ?_
    refine al_y rfl rfl (y_load1 rfl rfl rfl ty34) ?_
    refine al_y rfl rfl (y_assignV rfl rfl) ?_
    refine al_y rfl rfl (y_assignP rfl rfl) ?_
    refine al_nil ?_
    refine qt_normal ?_
    refine ac_seq ?_
    refine ac_seq ?_
    refine ac_draw mixed (by kernel_rfl) rfl ?_
    refine aq_y rfl (y_fieldAddr rfl rfl fld134_0) ?_
    refine aq_y rfl (y_loadN rfl rfl ty25 (by exact Nat.le_of_ble_eq_true rfl)) ?_
    refine aq_y rfl (y_moveP rfl rfl) ?_
    refine aq_y rfl (y_moveV rfl rfl) ?_
    refine aq_y rfl (y_indexAddr rfl rfl rfl slc34 (by omega) (str_at hx) str_len) ?_
    refine aq_y rfl (y_load1 rfl rfl rfl ty9) ?_
    refine aq_y rfl (y_moveV rfl rfl) ?_
    refine aq_y rfl (y_index_SL rfl rfl rfl Tryz.underlying9 (by omega) (by rw [Int.toNat_natCast]; exact List.getElem?_eq_getElem hy)) ?_
    refine aq_y rfl (y_moveV rfl rfl) ?_
    refine aq_y rfl (y_callF (av := [_, _, _]) rfl ⟨rfl, rfl, rfl, trivial⟩ (hch ▸ f119 c _ f hc ⟨hc1, hc2⟩ hf)) ?_
    refine aq_nil ?_
    refine qt_normal ?_
    refine ac_block ?_
    refine ac_seq ?_
    refine ac_region ?_
    refine al_y rfl rfl (y_eql rfl rfl rfl) ?_
    refine al_y rfl rfl (y_assignV rfl rfl) ?_
    refine al_nil ?_
    refine qt_normal ?_
    refine ac_cond rfl (fun h1 => ?_) (fun h1 => ?_)
    ·
     exfalso; have hq := how_never (c := c) (at' := at') (place := place) (f := f) (n := n.2.1) hlt (by rw [hch]; simpa using h1); have := (hall 1 (by omega)).symm.trans hq; cases this
    ·
     have hn0 : howI c (chF l[1] at' place) f ≠ 0 := by rw [hch]; simpa using h1
     refine ac_seq ?_
     refine ac_region ?_
     refine al_y rfl rfl (y_eql rfl rfl rfl) ?_
     refine al_y rfl rfl (y_assignV rfl rfl) ?_
     refine al_nil ?_
     refine qt_normal ?_
     refine ac_cond rfl (fun h2 => ?_) (fun h2 => ?_)
     ·
      have hwq := how_wrong (c := c) (at' := at') (place := place) (f := f) (n := n.2.1) hlt (by rw [hch]; simpa using h2)
      have hW := hwq.1
      have hq := hwq.2
      refine ac_region ?_
      refine al_y rfl rfl (y_moveV rfl rfl) ?_
      refine al_y rfl rfl (y_indexAddr_arrp rfl rfl rfl rfl rfl arr185 (by omega) (by omega)) ?_
      refine al_y rfl rfl (y_load_pp1 rfl rfl rfl rfl rfl rfl ty3) ?_
      refine al_y rfl rfl (y_add rfl rfl rfl ⟨(by omega), (by omega)⟩) ?_
      refine al_y rfl rfl (y_indexAddr_arrp rfl rfl rfl rfl rfl arr185 (by omega) (by omega)) ?_
      refine al_m rfl (m_store rfl rfl rfl rfl rfl rfl (cE_v rfl) ty3 (by rfl) (by exact Nat.le_of_ble_eq_true rfl)) ?_
      refine al_nil ?_
      refine qb_normal ?_
      refine qt_normal ?_
      refine ac_seq ?_
      refine ac_draw mixed (by kernel_rfl) rfl ?_
      refine aq_y rfl (y_moveV rfl rfl) ?_
      refine aq_y rfl (y_indexAddr_arrp rfl rfl rfl rfl rfl arr185 (by omega) (by omega)) ?_
      refine aq_y rfl (y_load_pp1 rfl rfl rfl rfl rfl rfl ty3) ?_
      refine aq_y rfl (y_fieldAddr rfl rfl fld134_0) ?_
      refine aq_y rfl (y_fieldAddr rfl rfl fld25_2) ?_
      refine aq_y rfl (y_load1 rfl rfl rfl ty3) ?_
      refine aq_y rfl (y_gtr rfl rfl rfl) ?_
      refine aq_nil ?_
      refine qt_normal ?_
      refine ac_cond rfl (fun h3 => ?_) (fun h3 => ?_)
      ·
       exfalso; have := hq.symm.trans (hall 1 (by omega)); simp at this h3; omega
      ·
       have hok : True := trivial
       refine ac_skip ?_
       refine qb_normal ?_
       refine qt_normal ?_
       refine ac_region ?_
       refine al_y rfl rfl (y_add rfl rfl rfl ⟨(by omega), (by omega)⟩) ?_
       refine al_y rfl rfl (y_moveV rfl rfl) ?_
       refine al_nil ?_
       exact ⟨⟨2, by omega⟩, by dsimp only; omega, (by refine weak_frM (mem' := [.row [[I (n.1 + wP l at' place f 0), I (n.2.1 + wP l at' place f 1), I n.2.2]], .row [[I 0, I 0, I 0]]]) [(2, I (at' : Int)), (3, I (place : Int)), (4, I f), (5, .pub (.ptr (eRec c l))), (6, .pp 0 1 0 0), (10, .pp 1 1 0 0), (15, .pub (eCps l)), (16, I (l.length : Int)), (17, I 2)] ?_ ?_; exact ⟨rfl, rfl, rfl, rfl, rfl, rfl, rfl, rfl, rfl, trivial⟩; exact (congrArg (fun z => [PO.row [z], .row [[I 0, I 0, I 0]]]) (by first | rw [hW, Int.add_zero] | rw [hW]; rfl | rw [hW])))⟩
     ·
      have hwq := how_right (c := c) (at' := at') (place := place) (f := f) (n := n.2.1) hlt hn0 (by rw [hch]; simpa using h2)
      have hW := hwq.1
      have hq := hwq.2
      refine ac_skip ?_
      refine qb_normal ?_
      refine qt_normal ?_
      refine ac_seq ?_
      refine ac_draw mixed (by kernel_rfl) rfl ?_
      refine aq_y rfl (y_moveV rfl rfl) ?_
      refine aq_y rfl (y_indexAddr_arrp rfl rfl rfl rfl rfl arr185 (by omega) (by omega)) ?_
      refine aq_y rfl (y_load_pp1 rfl rfl rfl rfl rfl rfl ty3) ?_
      refine aq_y rfl (y_fieldAddr rfl rfl fld134_0) ?_
      refine aq_y rfl (y_fieldAddr rfl rfl fld25_2) ?_
      refine aq_y rfl (y_load1 rfl rfl rfl ty3) ?_
      refine aq_y rfl (y_gtr rfl rfl rfl) ?_
      refine aq_nil ?_
      refine qt_normal ?_
      refine ac_cond rfl (fun h3 => ?_) (fun h3 => ?_)
      ·
       exfalso; have := hq.symm.trans (hall 1 (by omega)); simp at this h3; omega
      ·
       have hok : True := trivial
       refine ac_skip ?_
       refine qb_normal ?_
       refine qt_normal ?_
       refine ac_region ?_
       refine al_y rfl rfl (y_add rfl rfl rfl ⟨(by omega), (by omega)⟩) ?_
       refine al_y rfl rfl (y_moveV rfl rfl) ?_
       refine al_nil ?_
       exact ⟨⟨2, by omega⟩, by dsimp only; omega, (by refine weak_frM (mem' := [.row [[I (n.1 + wP l at' place f 0), I (n.2.1 + wP l at' place f 1), I n.2.2]], .row [[I 0, I 0, I 0]]]) [(2, I (at' : Int)), (3, I (place : Int)), (4, I f), (5, .pub (.ptr (eRec c l))), (6, .pp 0 1 0 0), (10, .pp 1 1 0 0), (15, .pub (eCps l)), (16, I (l.length : Int)), (17, I 2)] ?_ ?_; exact ⟨rfl, rfl, rfl, rfl, rfl, rfl, rfl, rfl, rfl, trivial⟩; exact (congrArg (fun z => [PO.row [z], .row [[I 0, I 0, I 0]]]) (by first | rw [hW, Int.add_zero] | rw [hW]; rfl | rw [hW])))⟩
   ·
    have hge : l.length ≤ 1 := by simp at h0; first | omega | simp [h0]
    refine ac_exit ?_
    refine qt_exit ?_
    refine qt_exit ?_
    refine qb_exit ?_
    refine qt_normal ?_
    refine ac_seq ?_
    refine ac_region ?_
    refine al_y rfl rfl (y_load_ppA (cs := [_, _, _]) rfl rfl rfl rfl rfl (by exact Nat.le_of_ble_eq_true rfl) rfl ty185) ?_
    refine al_m rfl (m_store rfl rfl rfl rfl rfl rfl (cE_agg rfl) ty185 (by rfl) (by exact Nat.le_of_ble_eq_true rfl)) ?_
    refine al_y rfl rfl (y_assignV rfl rfl) ?_
    refine al_nil ?_
    refine qt_normal ?_
    refine ac_ret ?_
    exact ⟨.inr rfl, ⟨_, rfl, ⟨_, _, rfl, (res_cell rfl rfl rfl rfl ty185 rfl ⟨_, _, rfl, AVle.of (pN0_1 hge (by omega)), ⟨_, _, rfl, AVle.of (pN1_1 hge (by omega)), ⟨_, _, rfl, AVle.of (pN2_1 hge (by omega)), rfl⟩⟩⟩), ⟨_, _, rfl, AVle.refl _, rfl⟩⟩⟩⟩
  ·
   dsimp only
   refine ac_seq ?_
   refine ac_region ?_
   refine al_y rfl rfl (y_lss rfl rfl rfl) ?_
   refine al_nil ?_
   refine qt_normal ?_
   refine ac_seq ?_
   refine ac_cond rfl (fun h0 => ?_) (fun h0 => ?_)
   ·
    have hlt : 2 < l.length := by simp at h0; omega
    obtain ⟨hx, hy, hch, hc1, hc2⟩ := copF_at (hcp _ (List.getElem_mem hlt)) hat hpl
    refine ac_skip ?_
    refine qt_normal ?_
    refine ac_seq ?_
    refine ac_block ?_
    refine ac_seq ?_
    refine ac_region ?_
    refine al_y rfl rfl (y_moveV rfl rfl) ?_
    refine al_y rfl rfl (y_indexAddr rfl rfl rfl slc26 (by omega) (cps_at hlt) cps_len) ?_
    refine al_y rfl rfl (y_load1 rfl rfl rfl ty34) ?_
    refine al_y rfl rfl (y_assignV rfl rfl) ?_
    refine al_y rfl rfl (y_assignP rfl rfl) ?_
    refine al_nil ?_
    refine qt_normal ?_
    refine ac_seq ?_
    refine ac_seq ?_
    refine ac_draw mixed (by kernel_rfl) rfl ?_
    refine aq_y rfl (y_fieldAddr rfl rfl fld134_0) ?_
    refine aq_y rfl (y_loadN rfl rfl ty25 (by exact Nat.le_of_ble_eq_true rfl)) ?_
    refine aq_y rfl (y_moveP rfl rfl) ?_
    refine aq_y rfl (y_moveV rfl rfl) ?_
    refine aq_y rfl (y_indexAddr rfl rfl rfl slc34 (by omega) (str_at hx) str_len) ?_
    refine aq_y rfl (y_load1 rfl rfl rfl ty9) ?_
    refine aq_y rfl (y_moveV rfl rfl) ?_
    refine aq_y rfl (y_index_SL rfl rfl rfl Tryz.underlying9 (by omega) (by rw [Int.toNat_natCast]; exact List.getElem?_eq_getElem hy)) ?_
    refine aq_y rfl (y_moveV rfl rfl) ?_
    refine aq_y rfl (y_callF (av := [_, _, _]) rfl ⟨rfl, rfl, rfl, trivial⟩ (hch ▸ f119 c _ f hc ⟨hc1, hc2⟩ hf)) ?_
    refine aq_nil ?_
    refine qt_normal ?_
    refine ac_block ?_
    refine ac_seq ?_
    refine ac_region ?_
    refine al_y rfl rfl (y_eql rfl rfl rfl) ?_
    refine al_y rfl rfl (y_assignV rfl rfl) ?_
    refine al_nil ?_
    refine qt_normal ?_
    refine ac_cond rfl (fun h1 => ?_) (fun h1 => ?_)
    ·
     exfalso; have hq := how_never (c := c) (at' := at') (place := place) (f := f) (n := n.2.2) hlt (by rw [hch]; simpa using h1); have := (hall 2 (by omega)).symm.trans hq; cases this
    ·
     have hn0 : howI c (chF l[2] at' place) f ≠ 0 := by rw [hch]; simpa using h1
     refine ac_seq ?_
     refine ac_region ?_
     refine al_y rfl rfl (y_eql rfl rfl rfl) ?_
     refine al_y rfl rfl (y_assignV rfl rfl) ?_
     refine al_nil ?_
     refine qt_normal ?_
     refine ac_cond rfl (fun h2 => ?_) (fun h2 => ?_)
     ·
      have hwq := how_wrong (c := c) (at' := at') (place := place) (f := f) (n := n.2.2) hlt (by rw [hch]; simpa using h2)
      have hW := hwq.1
      have hq := hwq.2
      refine ac_region ?_
      refine al_y rfl rfl (y_moveV rfl rfl) ?_
      refine al_y rfl rfl (y_indexAddr_arrp rfl rfl rfl rfl rfl arr185 (by omega) (by omega)) ?_
      refine al_y rfl rfl (y_load_pp1 rfl rfl rfl rfl rfl rfl ty3) ?_
      refine al_y rfl rfl (y_add rfl rfl rfl ⟨(by omega), (by omega)⟩) ?_
      refine al_y rfl rfl (y_indexAddr_arrp rfl rfl rfl rfl rfl arr185 (by omega) (by omega)) ?_
      refine al_m rfl (m_store rfl rfl rfl rfl rfl rfl (cE_v rfl) ty3 (by rfl) (by exact Nat.le_of_ble_eq_true rfl)) ?_
      refine al_nil ?_
      refine qb_normal ?_
      refine qt_normal ?_
      refine ac_seq ?_
      refine ac_draw mixed (by kernel_rfl) rfl ?_
      refine aq_y rfl (y_moveV rfl rfl) ?_
      refine aq_y rfl (y_indexAddr_arrp rfl rfl rfl rfl rfl arr185 (by omega) (by omega)) ?_
      refine aq_y rfl (y_load_pp1 rfl rfl rfl rfl rfl rfl ty3) ?_
      refine aq_y rfl (y_fieldAddr rfl rfl fld134_0) ?_
      refine aq_y rfl (y_fieldAddr rfl rfl fld25_2) ?_
      refine aq_y rfl (y_load1 rfl rfl rfl ty3) ?_
      refine aq_y rfl (y_gtr rfl rfl rfl) ?_
      refine aq_nil ?_
      refine qt_normal ?_
      refine ac_cond rfl (fun h3 => ?_) (fun h3 => ?_)
      ·
       exfalso; have := hq.symm.trans (hall 2 (by omega)); simp at this h3; omega
      ·
       have hok : True := trivial
       refine ac_skip ?_
       refine qb_normal ?_
       refine qt_normal ?_
       refine ac_region ?_
       refine al_y rfl rfl (y_add rfl rfl rfl ⟨(by omega), (by omega)⟩) ?_
       refine al_y rfl rfl (y_moveV rfl rfl) ?_
       refine al_nil ?_
       exact ⟨⟨3, by omega⟩, by dsimp only; omega, (by refine weak_frM (mem' := [.row [[I (n.1 + wP l at' place f 0), I (n.2.1 + wP l at' place f 1), I (n.2.2 + wP l at' place f 2)]], .row [[I 0, I 0, I 0]]]) [(2, I (at' : Int)), (3, I (place : Int)), (4, I f), (5, .pub (.ptr (eRec c l))), (6, .pp 0 1 0 0), (10, .pp 1 1 0 0), (15, .pub (eCps l)), (16, I (l.length : Int)), (17, I 3)] ?_ ?_; exact ⟨rfl, rfl, rfl, rfl, rfl, rfl, rfl, rfl, rfl, trivial⟩; exact (congrArg (fun z => [PO.row [z], .row [[I 0, I 0, I 0]]]) (by first | rw [hW, Int.add_zero] | rw [hW]; rfl | rw [hW])))⟩
     ·
      have hwq := how_right (c := c) (at' := at') (place := place) (f := f) (n := n.2.2) hlt hn0 (by rw [hch]; simpa using h2)
      have hW := hwq.1
      have hq := hwq.2
      refine ac_skip ?_
      refine qb_normal ?_
      refine qt_normal ?_
      refine ac_seq ?_
      refine ac_draw mixed (by kernel_rfl) rfl ?_
      refine aq_y rfl (y_moveV rfl rfl) ?_
      refine aq_y rfl (y_indexAddr_arrp rfl rfl rfl rfl rfl arr185 (by omega) (by omega)) ?_
      refine aq_y rfl (y_load_pp1 rfl rfl rfl rfl rfl rfl ty3) ?_
      refine aq_y rfl (y_fieldAddr rfl rfl fld134_0) ?_
      refine aq_y rfl (y_fieldAddr rfl rfl fld25_2) ?_
      refine aq_y rfl (y_load1 rfl rfl rfl ty3) ?_
      refine aq_y rfl (y_gtr rfl rfl rfl) ?_
      refine aq_nil ?_
      refine qt_normal ?_
      refine ac_cond rfl (fun h3 => ?_) (fun h3 => ?_)
      ·
       exfalso; have := hq.symm.trans (hall 2 (by omega)); simp at this h3; omega
      ·
       have hok : True := trivial
       refine ac_skip ?_
       refine qb_normal ?_
       refine qt_normal ?_
       refine ac_region ?_
       refine al_y rfl rfl (y_add rfl rfl rfl ⟨(by omega), (by omega)⟩) ?_
       refine al_y rfl rfl (y_moveV rfl rfl) ?_
       refine al_nil ?_
       exact ⟨⟨3, by omega⟩, by dsimp only; omega, (by refine weak_frM (mem' := [.row [[I (n.1 + wP l at' place f 0), I (n.2.1 + wP l at' place f 1), I (n.2.2 + wP l at' place f 2)]], .row [[I 0, I 0, I 0]]]) [(2, I (at' : Int)), (3, I (place : Int)), (4, I f), (5, .pub (.ptr (eRec c l))), (6, .pp 0 1 0 0), (10, .pp 1 1 0 0), (15, .pub (eCps l)), (16, I (l.length : Int)), (17, I 3)] ?_ ?_; exact ⟨rfl, rfl, rfl, rfl, rfl, rfl, rfl, rfl, rfl, trivial⟩; exact (congrArg (fun z => [PO.row [z], .row [[I 0, I 0, I 0]]]) (by first | rw [hW, Int.add_zero] | rw [hW]; rfl | rw [hW])))⟩
   ·
    have hge : l.length ≤ 2 := by simp at h0; first | omega | simp [h0]
    refine ac_exit ?_
    refine qt_exit ?_
    refine qt_exit ?_
    refine qb_exit ?_
    refine qt_normal ?_
    refine ac_seq ?_
    refine ac_region ?_
    refine al_y rfl rfl (y_load_ppA (cs := [_, _, _]) rfl rfl rfl rfl rfl (by exact Nat.le_of_ble_eq_true rfl) rfl ty185) ?_
    refine al_m rfl (m_store rfl rfl rfl rfl rfl rfl (cE_agg rfl) ty185 (by rfl) (by exact Nat.le_of_ble_eq_true rfl)) ?_
    refine al_y rfl rfl (y_assignV rfl rfl) ?_
    refine al_nil ?_
    refine qt_normal ?_
    refine ac_ret ?_
    exact ⟨.inr rfl, ⟨_, rfl, ⟨_, _, rfl, (res_cell rfl rfl rfl rfl ty185 rfl ⟨_, _, rfl, AVle.of (pN0_2 hge (by omega)), ⟨_, _, rfl, AVle.of (pN1_2 hge (by omega)), ⟨_, _, rfl, AVle.of (pN2_2 hge (by omega)), rfl⟩⟩⟩), ⟨_, _, rfl, AVle.refl _, rfl⟩⟩⟩⟩
  ·
   dsimp only
   refine ac_seq ?_
   refine ac_region ?_
   refine al_y rfl rfl (y_lss rfl rfl rfl) ?_
   refine al_nil ?_
   refine qt_normal ?_
   refine ac_seq ?_
   refine ac_cond rfl (fun h0 => ?_) (fun h0 => ?_)
   ·
    exfalso; simp at h0; omega
   ·
    have hge : l.length ≤ 3 := by simp at h0; first | omega | simp [h0]
    refine ac_exit ?_
    refine qt_exit ?_
    refine qt_exit ?_
    refine qb_exit ?_
    refine qt_normal ?_
    refine ac_seq ?_
    refine ac_region ?_
    refine al_y rfl rfl (y_load_ppA (cs := [_, _, _]) rfl rfl rfl rfl rfl (by exact Nat.le_of_ble_eq_true rfl) rfl ty185) ?_
    refine al_m rfl (m_store rfl rfl rfl rfl rfl rfl (cE_agg rfl) ty185 (by rfl) (by exact Nat.le_of_ble_eq_true rfl)) ?_
    refine al_y rfl rfl (y_assignV rfl rfl) ?_
    refine al_nil ?_
    refine qt_normal ?_
    refine ac_ret ?_
    exact ⟨.inr rfl, ⟨_, rfl, ⟨_, _, rfl, (res_cell rfl rfl rfl rfl ty185 rfl ⟨_, _, rfl, AVle.of (pN0_3 hge (by omega)), ⟨_, _, rfl, AVle.of (pN1_3 hge (by omega)), ⟨_, _, rfl, AVle.of (pN2_3 hge (by omega)), rfl⟩⟩⟩), ⟨_, _, rfl, AVle.refl _, rfl⟩⟩⟩⟩

theorem f137_no (c : Cod) (l : List (List (List UInt8))) (n : Int × Int × Int) (at' place : Nat) (f : Int) (hc : codB c = true) (hl : l.length ≤ 3) (hcp : ∀ g ∈ l, copB c g = true) (hat : at' ≤ c.fields.length) (hpl : place < 5) (hf : 0 ≤ f ∧ f ≤ 9) (hn : 0 ≤ n.1 ∧ n.1 ≤ 1000 ∧ 0 ≤ n.2.1 ∧ n.2.1 ≤ 1000 ∧ 0 ≤ n.2.2 ∧ n.2.2 ≤ 1000) (hno : plOk c l at' place f n = false) : ACall Tryz.prog G 137 [.agg (eRec c l), .agg (eCn n), ei (at' : Int), ei (place : Int), ei f] (.tup [.agg [.top, .top, .top], .v (.bool false)]) := by
 have hb0 := wP_bd l at' place f 0
 have hb1 := wP_bd l at' place f 1
 have hb2 := wP_bd l at' place f 2
 refine acall_of Tryz.func137 rfl (by kernel_rfl) rfl ?_
 refine ac_seq ?_
 refine ac_region ?_
 refine al_y rfl rfl (y_box rfl (cE_agg rfl)) ?_
 refine al_m rfl (m_box rfl rfl (cE_agg rfl)) ?_
 refine al_m rfl (m_alloc rfl rfl zv185 rfl rfl) ?_
 refine al_y rfl rfl (y_assignV rfl rfl) ?_
 refine al_nil ?_
 refine qt_normal ?_
 refine ac_seq ?_
 refine ac_seq ?_
 refine ac_region ?_
 refine al_y rfl rfl (y_fieldAddr rfl rfl fld134_1) ?_
 refine al_y rfl rfl (y_load1 rfl rfl rfl ty26) ?_
 refine al_y rfl rfl (y_len rfl rfl rfl Tryz.underlying26) ?_
 refine al_y rfl rfl (y_moveV rfl rfl) ?_
 refine al_nil ?_
 refine qt_normal ?_
 refine ac_block ?_
 refine ac_loop (ι := { k : Nat // k < 4 ∧ (∀ i, i < k → okM3 n c l at' place f i = true) }) (fun k => match k.1 with | 0 => ⟨Tryz.f137.ntmps, frL [(2, I (at' : Int)), (3, I (place : Int)), (4, I f), (5, .pub (.ptr (eRec c l))), (6, .pp 0 1 0 0), (10, .pp 1 1 0 0), (15, .pub (eCps l)), (16, I (l.length : Int)), (17, I 0)], [.row [[I n.1, I n.2.1, I n.2.2]], .row [[I 0, I 0, I 0]]]⟩ | 1 => ⟨Tryz.f137.ntmps, frL [(2, I (at' : Int)), (3, I (place : Int)), (4, I f), (5, .pub (.ptr (eRec c l))), (6, .pp 0 1 0 0), (10, .pp 1 1 0 0), (15, .pub (eCps l)), (16, I (l.length : Int)), (17, I 1)], [.row [[I (n.1 + wP l at' place f 0), I n.2.1, I n.2.2]], .row [[I 0, I 0, I 0]]]⟩ | 2 => ⟨Tryz.f137.ntmps, frL [(2, I (at' : Int)), (3, I (place : Int)), (4, I f), (5, .pub (.ptr (eRec c l))), (6, .pp 0 1 0 0), (10, .pp 1 1 0 0), (15, .pub (eCps l)), (16, I (l.length : Int)), (17, I 2)], [.row [[I (n.1 + wP l at' place f 0), I (n.2.1 + wP l at' place f 1), I n.2.2]], .row [[I 0, I 0, I 0]]]⟩ | _ => ⟨Tryz.f137.ntmps, frL [(2, I (at' : Int)), (3, I (place : Int)), (4, I f), (5, .pub (.ptr (eRec c l))), (6, .pp 0 1 0 0), (10, .pp 1 1 0 0), (15, .pub (eCps l)), (16, I (l.length : Int)), (17, I 3)], [.row [[I (n.1 + wP l at' place f 0), I (n.2.1 + wP l at' place f 1), I (n.2.2 + wP l at' place f 2)]], .row [[I 0, I 0, I 0]]]⟩) (fun k => 4 - k.1) (⟨0, by omega, fun i hi => absurd hi (by omega)⟩) ?_ ?_
 ·
  exact weak_frM _ ⟨rfl, rfl, rfl, rfl, rfl, rfl, rfl, (congrArg (fun x : Nat => I (x : Int)) (List.length_map _)), rfl, trivial⟩ (rfl)
 ·
  rintro ⟨k, hk, hinv⟩
  have hk3 : k = 0 ∨ k = 1 ∨ k = 2 ∨ k = 3 := by omega
  rcases hk3 with rfl | rfl | rfl | rfl
  ·
   dsimp only
   refine ac_seq ?_
   refine ac_region ?_
   refine al_y rfl rfl (y_lss rfl rfl rfl) ?_
   refine al_nil ?_
   refine qt_normal ?_
   refine ac_seq ?_
   refine ac_cond rfl (fun h0 => ?_) (fun h0 => ?_)
   ·
    have hlt : 0 < l.length := by simp at h0; omega
    obtain ⟨hx, hy, hch, hc1, hc2⟩ := copF_at (hcp _ (List.getElem_mem hlt)) hat hpl
    refine ac_skip ?_
    refine qt_normal ?_
    refine ac_seq ?_
    refine ac_block ?_
    refine ac_seq ?_
    refine ac_region ?_
    refine al_y rfl rfl (y_moveV rfl rfl) ?_
    refine al_y rfl rfl (y_indexAddr rfl rfl rfl slc26 (by omega) (cps_at hlt) cps_len) ?_
    refine al_y rfl rfl (y_load1 rfl rfl rfl ty34) ?_
    refine al_y rfl rfl (y_assignV rfl rfl) ?_
    refine al_y rfl rfl (y_assignP rfl rfl) ?_
    refine al_nil ?_
    refine qt_normal ?_
    refine ac_seq ?_
    refine ac_seq ?_
    refine ac_draw mixed (by kernel_rfl) rfl ?_
    refine aq_y rfl (y_fieldAddr rfl rfl fld134_0) ?_
    refine aq_y rfl (y_loadN rfl rfl ty25 (by exact Nat.le_of_ble_eq_true rfl)) ?_
    refine aq_y rfl (y_moveP rfl rfl) ?_
    refine aq_y rfl (y_moveV rfl rfl) ?_
    refine aq_y rfl (y_indexAddr rfl rfl rfl slc34 (by omega) (str_at hx) str_len) ?_
    refine aq_y rfl (y_load1 rfl rfl rfl ty9) ?_
    refine aq_y rfl (y_moveV rfl rfl) ?_
    refine aq_y rfl (y_index_SL rfl rfl rfl Tryz.underlying9 (by omega) (by rw [Int.toNat_natCast]; exact List.getElem?_eq_getElem hy)) ?_
    refine aq_y rfl (y_moveV rfl rfl) ?_
    refine aq_y rfl (y_callF (av := [_, _, _]) rfl ⟨rfl, rfl, rfl, trivial⟩ (hch ▸ f119 c _ f hc ⟨hc1, hc2⟩ hf)) ?_
    refine aq_nil ?_
    refine qt_normal ?_
    refine ac_block ?_
    refine ac_seq ?_
    refine ac_region ?_
    refine al_y rfl rfl (y_eql rfl rfl rfl) ?_
    refine al_y rfl rfl (y_assignV rfl rfl) ?_
    refine al_nil ?_
    refine qt_normal ?_
    refine ac_cond rfl (fun h1 => ?_) (fun h1 => ?_)
    ·
     refine ac_seq ?_
     refine ac_region ?_
     refine al_y rfl rfl (y_load_ppA (cs := [_, _, _]) rfl rfl rfl rfl rfl (by exact Nat.le_of_ble_eq_true rfl) rfl ty185) ?_
     refine al_m rfl (m_store rfl rfl rfl rfl rfl rfl (cE_agg rfl) ty185 (by rfl) (by exact Nat.le_of_ble_eq_true rfl)) ?_
     refine al_y rfl rfl (y_assignV rfl rfl) ?_
     refine al_nil ?_
     refine qt_normal ?_
     refine ac_ret ?_
     refine qb_ret ?_
     refine qt_ret ?_
     refine qb_ret ?_
     refine qt_ret ?_
     refine qt_ret ?_
     refine qb_ret ?_
     refine qt_ret ?_
     exact ⟨.inr rfl, ⟨_, rfl, ⟨_, _, rfl, (res_cell rfl rfl rfl rfl ty185 rfl ⟨_, _, rfl, AVle.top _, ⟨_, _, rfl, AVle.top _, ⟨_, _, rfl, AVle.top _, rfl⟩⟩⟩), ⟨_, _, rfl, AVle.refl _, rfl⟩⟩⟩⟩
    ·
     have hn0 : howI c (chF l[0] at' place) f ≠ 0 := by rw [hch]; simpa using h1
     refine ac_seq ?_
     refine ac_region ?_
     refine al_y rfl rfl (y_eql rfl rfl rfl) ?_
     refine al_y rfl rfl (y_assignV rfl rfl) ?_
     refine al_nil ?_
     refine qt_normal ?_
     refine ac_cond rfl (fun h2 => ?_) (fun h2 => ?_)
     ·
      have hwq := how_wrong (c := c) (at' := at') (place := place) (f := f) (n := n.1) hlt (by rw [hch]; simpa using h2)
      have hW := hwq.1
      have hq := hwq.2
      refine ac_region ?_
      refine al_y rfl rfl (y_moveV rfl rfl) ?_
      refine al_y rfl rfl (y_indexAddr_arrp rfl rfl rfl rfl rfl arr185 (by omega) (by omega)) ?_
      refine al_y rfl rfl (y_load_pp1 rfl rfl rfl rfl rfl rfl ty3) ?_
      refine al_y rfl rfl (y_add rfl rfl rfl ⟨(by omega), (by omega)⟩) ?_
      refine al_y rfl rfl (y_indexAddr_arrp rfl rfl rfl rfl rfl arr185 (by omega) (by omega)) ?_
      refine al_m rfl (m_store rfl rfl rfl rfl rfl rfl (cE_v rfl) ty3 (by rfl) (by exact Nat.le_of_ble_eq_true rfl)) ?_
      refine al_nil ?_
      refine qb_normal ?_
      refine qt_normal ?_
      refine ac_seq ?_
      refine ac_draw mixed (by kernel_rfl) rfl ?_
      refine aq_y rfl (y_moveV rfl rfl) ?_
      refine aq_y rfl (y_indexAddr_arrp rfl rfl rfl rfl rfl arr185 (by omega) (by omega)) ?_
      refine aq_y rfl (y_load_pp1 rfl rfl rfl rfl rfl rfl ty3) ?_
      refine aq_y rfl (y_fieldAddr rfl rfl fld134_0) ?_
      refine aq_y rfl (y_fieldAddr rfl rfl fld25_2) ?_
      refine aq_y rfl (y_load1 rfl rfl rfl ty3) ?_
      refine aq_y rfl (y_gtr rfl rfl rfl) ?_
      refine aq_nil ?_
      refine qt_normal ?_
      refine ac_cond rfl (fun h3 => ?_) (fun h3 => ?_)
      ·
       refine ac_seq ?_
       refine ac_region ?_
       refine al_y rfl rfl (y_load_ppA (cs := [_, _, _]) rfl rfl rfl rfl rfl (by exact Nat.le_of_ble_eq_true rfl) rfl ty185) ?_
       refine al_m rfl (m_store rfl rfl rfl rfl rfl rfl (cE_agg rfl) ty185 (by rfl) (by exact Nat.le_of_ble_eq_true rfl)) ?_
       refine al_y rfl rfl (y_assignV rfl rfl) ?_
       refine al_nil ?_
       refine qt_normal ?_
       refine ac_ret ?_
       refine qb_ret ?_
       refine qt_ret ?_
       refine qt_ret ?_
       refine qb_ret ?_
       refine qt_ret ?_
       exact ⟨.inr rfl, ⟨_, rfl, ⟨_, _, rfl, (res_cell rfl rfl rfl rfl ty185 rfl ⟨_, _, rfl, AVle.top _, ⟨_, _, rfl, AVle.top _, ⟨_, _, rfl, AVle.top _, rfl⟩⟩⟩), ⟨_, _, rfl, AVle.refl _, rfl⟩⟩⟩⟩
      ·
       have hok : okM3 n c l at' place f 0 = true := by simp only [okM3]; rw [hq]; simpa using h3
       refine ac_skip ?_
       refine qb_normal ?_
       refine qt_normal ?_
       refine ac_region ?_
       refine al_y rfl rfl (y_add rfl rfl rfl ⟨(by omega), (by omega)⟩) ?_
       refine al_y rfl rfl (y_moveV rfl rfl) ?_
       refine al_nil ?_
       exact ⟨⟨1, by omega, (fun i hi => by rcases (show i = 0 by omega) with rfl <;> first | exact hok | exact hinv _ (by omega))⟩, by dsimp only; omega, (by refine weak_frM (mem' := [.row [[I (n.1 + wP l at' place f 0), I n.2.1, I n.2.2]], .row [[I 0, I 0, I 0]]]) [(2, I (at' : Int)), (3, I (place : Int)), (4, I f), (5, .pub (.ptr (eRec c l))), (6, .pp 0 1 0 0), (10, .pp 1 1 0 0), (15, .pub (eCps l)), (16, I (l.length : Int)), (17, I 1)] ?_ ?_; exact ⟨rfl, rfl, rfl, rfl, rfl, rfl, rfl, rfl, rfl, trivial⟩; exact (congrArg (fun z => [PO.row [z], .row [[I 0, I 0, I 0]]]) (by first | rw [hW, Int.add_zero] | rw [hW]; rfl | rw [hW])))⟩
     ·
      have hwq := how_right (c := c) (at' := at') (place := place) (f := f) (n := n.1) hlt hn0 (by rw [hch]; simpa using h2)
      have hW := hwq.1
      have hq := hwq.2
      refine ac_skip ?_
      refine qb_normal ?_
      refine qt_normal ?_
      refine ac_seq ?_
      refine ac_draw mixed (by kernel_rfl) rfl ?_
      refine aq_y rfl (y_moveV rfl rfl) ?_
      refine aq_y rfl (y_indexAddr_arrp rfl rfl rfl rfl rfl arr185 (by omega) (by omega)) ?_
      refine aq_y rfl (y_load_pp1 rfl rfl rfl rfl rfl rfl ty3) ?_
      refine aq_y rfl (y_fieldAddr rfl rfl fld134_0) ?_
      refine aq_y rfl (y_fieldAddr rfl rfl fld25_2) ?_
      refine aq_y rfl (y_load1 rfl rfl rfl ty3) ?_
      refine aq_y rfl (y_gtr rfl rfl rfl) ?_
      refine aq_nil ?_
      refine qt_normal ?_
      refine ac_cond rfl (fun h3 => ?_) (fun h3 => ?_)
      ·
       refine ac_seq ?_
       refine ac_region ?_
       refine al_y rfl rfl (y_load_ppA (cs := [_, _, _]) rfl rfl rfl rfl rfl (by exact Nat.le_of_ble_eq_true rfl) rfl ty185) ?_
       refine al_m rfl (m_store rfl rfl rfl rfl rfl rfl (cE_agg rfl) ty185 (by rfl) (by exact Nat.le_of_ble_eq_true rfl)) ?_
       refine al_y rfl rfl (y_assignV rfl rfl) ?_
       refine al_nil ?_
       refine qt_normal ?_
       refine ac_ret ?_
       refine qb_ret ?_
       refine qt_ret ?_
       refine qt_ret ?_
       refine qb_ret ?_
       refine qt_ret ?_
       exact ⟨.inr rfl, ⟨_, rfl, ⟨_, _, rfl, (res_cell rfl rfl rfl rfl ty185 rfl ⟨_, _, rfl, AVle.top _, ⟨_, _, rfl, AVle.top _, ⟨_, _, rfl, AVle.top _, rfl⟩⟩⟩), ⟨_, _, rfl, AVle.refl _, rfl⟩⟩⟩⟩
      ·
       have hok : okM3 n c l at' place f 0 = true := by simp only [okM3]; rw [hq]; simpa using h3
       refine ac_skip ?_
       refine qb_normal ?_
       refine qt_normal ?_
       refine ac_region ?_
       refine al_y rfl rfl (y_add rfl rfl rfl ⟨(by omega), (by omega)⟩) ?_
       refine al_y rfl rfl (y_moveV rfl rfl) ?_
       refine al_nil ?_
       exact ⟨⟨1, by omega, (fun i hi => by rcases (show i = 0 by omega) with rfl <;> first | exact hok | exact hinv _ (by omega))⟩, by dsimp only; omega, (by refine weak_frM (mem' := [.row [[I (n.1 + wP l at' place f 0), I n.2.1, I n.2.2]], .row [[I 0, I 0, I 0]]]) [(2, I (at' : Int)), (3, I (place : Int)), (4, I f), (5, .pub (.ptr (eRec c l))), (6, .pp 0 1 0 0), (10, .pp 1 1 0 0), (15, .pub (eCps l)), (16, I (l.length : Int)), (17, I 1)] ?_ ?_; exact ⟨rfl, rfl, rfl, rfl, rfl, rfl, rfl, rfl, rfl, trivial⟩; exact (congrArg (fun z => [PO.row [z], .row [[I 0, I 0, I 0]]]) (by first | rw [hW, Int.add_zero] | rw [hW]; rfl | rw [hW])))⟩
   ·
    exfalso; have hge : l.length ≤ 0 := by simp at h0; first | omega | simp [h0]
    have : plOk c l at' place f n = true := by
     have := hinv
     simp only [plOk, Bool.and_eq_true]
     exact ⟨okQ_big (by omega), okQ_big (by omega), okQ_big (by omega)⟩
    rw [this] at hno; cases hno
  ·
   dsimp only
   refine ac_seq ?_
   refine ac_region ?_
   refine al_y rfl rfl (y_lss rfl rfl rfl) ?_
   refine al_nil ?_
   refine qt_normal ?_
   refine ac_seq ?_
   refine ac_cond rfl (fun h0 => ?_) (fun h0 => ?_)
   ·
    have hlt : 1 < l.length := by simp at h0; omega
    obtain ⟨hx, hy, hch, hc1, hc2⟩ := copF_at (hcp _ (List.getElem_mem hlt)) hat hpl
    refine ac_skip ?_
    refine qt_normal ?_
    refine ac_seq ?_
    refine ac_block ?_
    refine ac_seq ?_
    refine ac_region ?_
    refine al_y rfl rfl (y_moveV rfl rfl) ?_
    refine al_y rfl rfl (y_indexAddr rfl rfl rfl slc26 (by omega) (cps_at hlt) cps_len) ?_
    refine al_y rfl rfl (y_load1 rfl rfl rfl ty34) ?_
    refine al_y rfl rfl (y_assignV rfl rfl) ?_
    refine al_y rfl rfl (y_assignP rfl rfl) ?_
    refine al_nil ?_
    refine qt_normal ?_
    refine ac_seq ?_
    refine ac_seq ?_
    refine ac_draw mixed (by kernel_rfl) rfl ?_
    refine aq_y rfl (y_fieldAddr rfl rfl fld134_0) ?_
    refine aq_y rfl (y_loadN rfl rfl ty25 (by exact Nat.le_of_ble_eq_true rfl)) ?_
    refine aq_y rfl (y_moveP rfl rfl) ?_
    refine aq_y rfl (y_moveV rfl rfl) ?_
    refine aq_y rfl (y_indexAddr rfl rfl rfl slc34 (by omega) (str_at hx) str_len) ?_
    refine aq_y rfl (y_load1 rfl rfl rfl ty9) ?_
    refine aq_y rfl (y_moveV rfl rfl) ?_
    refine aq_y rfl (y_index_SL rfl rfl rfl Tryz.underlying9 (by omega) (by rw [Int.toNat_natCast]; exact List.getElem?_eq_getElem hy)) ?_
    refine aq_y rfl (y_moveV rfl rfl) ?_
    refine aq_y rfl (y_callF (av := [_, _, _]) rfl ⟨rfl, rfl, rfl, trivial⟩ (hch ▸ f119 c _ f hc ⟨hc1, hc2⟩ hf)) ?_
    refine aq_nil ?_
    refine qt_normal ?_
    refine ac_block ?_
    refine ac_seq ?_
    refine ac_region ?_
    refine al_y rfl rfl (y_eql rfl rfl rfl) ?_
    refine al_y rfl rfl (y_assignV rfl rfl) ?_
    refine al_nil ?_
    refine qt_normal ?_
    refine ac_cond rfl (fun h1 => ?_) (fun h1 => ?_)
    ·
     refine ac_seq ?_
     refine ac_region ?_
     refine al_y rfl rfl (y_load_ppA (cs := [_, _, _]) rfl rfl rfl rfl rfl (by exact Nat.le_of_ble_eq_true rfl) rfl ty185) ?_
     refine al_m rfl (m_store rfl rfl rfl rfl rfl rfl (cE_agg rfl) ty185 (by rfl) (by exact Nat.le_of_ble_eq_true rfl)) ?_
     refine al_y rfl rfl (y_assignV rfl rfl) ?_
     refine al_nil ?_
     refine qt_normal ?_
     refine ac_ret ?_
     refine qb_ret ?_
     refine qt_ret ?_
     refine qb_ret ?_
     refine qt_ret ?_
     refine qt_ret ?_
     refine qb_ret ?_
     refine qt_ret ?_
     exact ⟨.inr rfl, ⟨_, rfl, ⟨_, _, rfl, (res_cell rfl rfl rfl rfl ty185 rfl ⟨_, _, rfl, AVle.top _, ⟨_, _, rfl, AVle.top _, ⟨_, _, rfl, AVle.top _, rfl⟩⟩⟩), ⟨_, _, rfl, AVle.refl _, rfl⟩⟩⟩⟩
    ·
     have hn0 : howI c (chF l[1] at' place) f ≠ 0 := by rw [hch]; simpa using h1
     refine ac_seq ?_
     refine ac_region ?_
     refine al_y rfl rfl (y_eql rfl rfl rfl) ?_
     refine al_y rfl rfl (y_assignV rfl rfl) ?_
     refine al_nil ?_
     refine qt_normal ?_
     refine ac_cond rfl (fun h2 => ?_) (fun h2 => ?_)
     ·
      have hwq := how_wrong (c := c) (at' := at') (place := place) (f := f) (n := n.2.1) hlt (by rw [hch]; simpa using h2)
      have hW := hwq.1
      have hq := hwq.2
      refine ac_region ?_
      refine al_y rfl rfl (y_moveV rfl rfl) ?_
      refine al_y rfl rfl (y_indexAddr_arrp rfl rfl rfl rfl rfl arr185 (by omega) (by omega)) ?_
      refine al_y rfl rfl (y_load_pp1 rfl rfl rfl rfl rfl rfl ty3) ?_
      refine al_y rfl rfl (y_add rfl rfl rfl ⟨(by omega), (by omega)⟩) ?_
      refine al_y rfl rfl (y_indexAddr_arrp rfl rfl rfl rfl rfl arr185 (by omega) (by omega)) ?_
      refine al_m rfl (m_store rfl rfl rfl rfl rfl rfl (cE_v rfl) ty3 (by rfl) (by exact Nat.le_of_ble_eq_true rfl)) ?_
      refine al_nil ?_
      refine qb_normal ?_
      refine qt_normal ?_
      refine ac_seq ?_
      refine ac_draw mixed (by kernel_rfl) rfl ?_
      refine aq_y rfl (y_moveV rfl rfl) ?_
      refine aq_y rfl (y_indexAddr_arrp rfl rfl rfl rfl rfl arr185 (by omega) (by omega)) ?_
      refine aq_y rfl (y_load_pp1 rfl rfl rfl rfl rfl rfl ty3) ?_
      refine aq_y rfl (y_fieldAddr rfl rfl fld134_0) ?_
      refine aq_y rfl (y_fieldAddr rfl rfl fld25_2) ?_
      refine aq_y rfl (y_load1 rfl rfl rfl ty3) ?_
      refine aq_y rfl (y_gtr rfl rfl rfl) ?_
      refine aq_nil ?_
      refine qt_normal ?_
      refine ac_cond rfl (fun h3 => ?_) (fun h3 => ?_)
      ·
       refine ac_seq ?_
       refine ac_region ?_
       refine al_y rfl rfl (y_load_ppA (cs := [_, _, _]) rfl rfl rfl rfl rfl (by exact Nat.le_of_ble_eq_true rfl) rfl ty185) ?_
       refine al_m rfl (m_store rfl rfl rfl rfl rfl rfl (cE_agg rfl) ty185 (by rfl) (by exact Nat.le_of_ble_eq_true rfl)) ?_
       refine al_y rfl rfl (y_assignV rfl rfl) ?_
       refine al_nil ?_
       refine qt_normal ?_
       refine ac_ret ?_
       refine qb_ret ?_
       refine qt_ret ?_
       refine qt_ret ?_
       refine qb_ret ?_
       refine qt_ret ?_
       exact ⟨.inr rfl, ⟨_, rfl, ⟨_, _, rfl, (res_cell rfl rfl rfl rfl ty185 rfl ⟨_, _, rfl, AVle.top _, ⟨_, _, rfl, AVle.top _, ⟨_, _, rfl, AVle.top _, rfl⟩⟩⟩), ⟨_, _, rfl, AVle.refl _, rfl⟩⟩⟩⟩
      ·
       have hok : okM3 n c l at' place f 1 = true := by simp only [okM3]; rw [hq]; simpa using h3
       refine ac_skip ?_
       refine qb_normal ?_
       refine qt_normal ?_
       refine ac_region ?_
       refine al_y rfl rfl (y_add rfl rfl rfl ⟨(by omega), (by omega)⟩) ?_
       refine al_y rfl rfl (y_moveV rfl rfl) ?_
       refine al_nil ?_
       exact ⟨⟨2, by omega, (fun i hi => by rcases (show i = 0 ∨ i = 1 by omega) with rfl | rfl <;> first | exact hok | exact hinv _ (by omega))⟩, by dsimp only; omega, (by refine weak_frM (mem' := [.row [[I (n.1 + wP l at' place f 0), I (n.2.1 + wP l at' place f 1), I n.2.2]], .row [[I 0, I 0, I 0]]]) [(2, I (at' : Int)), (3, I (place : Int)), (4, I f), (5, .pub (.ptr (eRec c l))), (6, .pp 0 1 0 0), (10, .pp 1 1 0 0), (15, .pub (eCps l)), (16, I (l.length : Int)), (17, I 2)] ?_ ?_; exact ⟨rfl, rfl, rfl, rfl, rfl, rfl, rfl, rfl, rfl, trivial⟩; exact (congrArg (fun z => [PO.row [z], .row [[I 0, I 0, I 0]]]) (by first | rw [hW, Int.add_zero] | rw [hW]; rfl | rw [hW])))⟩
     ·
      have hwq := how_right (c := c) (at' := at') (place := place) (f := f) (n := n.2.1) hlt hn0 (by rw [hch]; simpa using h2)
      have hW := hwq.1
      have hq := hwq.2
      refine ac_skip ?_
      refine qb_normal ?_
      refine qt_normal ?_
      refine ac_seq ?_
      refine ac_draw mixed (by kernel_rfl) rfl ?_
      refine aq_y rfl (y_moveV rfl rfl) ?_
      refine aq_y rfl (y_indexAddr_arrp rfl rfl rfl rfl rfl arr185 (by omega) (by omega)) ?_
      refine aq_y rfl (y_load_pp1 rfl rfl rfl rfl rfl rfl ty3) ?_
      refine aq_y rfl (y_fieldAddr rfl rfl fld134_0) ?_
      refine aq_y rfl (y_fieldAddr rfl rfl fld25_2) ?_
      refine aq_y rfl (y_load1 rfl rfl rfl ty3) ?_
      refine aq_y rfl (y_gtr rfl rfl rfl) ?_
      refine aq_nil ?_
      refine qt_normal ?_
      refine ac_cond rfl (fun h3 => ?_) (fun h3 => ?_)
      ·
       refine ac_seq ?_
       refine ac_region ?_
       refine al_y rfl rfl (y_load_ppA (cs := [_, _, _]) rfl rfl rfl rfl rfl (by exact Nat.le_of_ble_eq_true rfl) rfl ty185) ?_
       refine al_m rfl (m_store rfl rfl rfl rfl rfl rfl (cE_agg rfl) ty185 (by rfl) (by exact Nat.le_of_ble_eq_true rfl)) ?_
       refine al_y rfl rfl (y_assignV rfl rfl) ?_
       refine al_nil ?_
       refine qt_normal ?_
       refine ac_ret ?_
       refine qb_ret ?_
       refine qt_ret ?_
       refine qt_ret ?_
       refine qb_ret ?_
       refine qt_ret ?_
       exact ⟨.inr rfl, ⟨_, rfl, ⟨_, _, rfl, (res_cell rfl rfl rfl rfl ty185 rfl ⟨_, _, rfl, AVle.top _, ⟨_, _, rfl, AVle.top _, ⟨_, _, rfl, AVle.top _, rfl⟩⟩⟩), ⟨_, _, rfl, AVle.refl _, rfl⟩⟩⟩⟩
      ·
       have hok : okM3 n c l at' place f 1 = true := by simp only [okM3]; rw [hq]; simpa using h3
       refine ac_skip ?_
       refine qb_normal ?_
       refine qt_normal ?_
       refine ac_region ?_
       refine al_y rfl rfl (y_add rfl rfl rfl ⟨(by omega), (by omega)⟩) ?_
       refine al_y rfl rfl (y_moveV rfl rfl) ?_
       refine al_nil ?_
       exact ⟨⟨2, by omega, (fun i hi => by rcases (show i = 0 ∨ i = 1 by omega) with rfl | rfl <;> first | exact hok | exact hinv _ (by omega))⟩, by dsimp only; omega, (by refine weak_frM (mem' := [.row [[I (n.1 + wP l at' place f 0), I (n.2.1 + wP l at' place f 1), I n.2.2]], .row [[I 0, I 0, I 0]]]) [(2, I (at' : Int)), (3, I (place : Int)), (4, I f), (5, .pub (.ptr (eRec c l))), (6, .pp 0 1 0 0), (10, .pp 1 1 0 0), (15, .pub (eCps l)), (16, I (l.length : Int)), (17, I 2)] ?_ ?_; exact ⟨rfl, rfl, rfl, rfl, rfl, rfl, rfl, rfl, rfl, trivial⟩; exact (congrArg (fun z => [PO.row [z], .row [[I 0, I 0, I 0]]]) (by first | rw [hW, Int.add_zero] | rw [hW]; rfl | rw [hW])))⟩
   ·
    exfalso; have hge : l.length ≤ 1 := by simp at h0; first | omega | simp [h0]
    have : plOk c l at' place f n = true := by
     have := hinv
     simp only [plOk, Bool.and_eq_true]
     exact ⟨hinv 0 (by omega), okQ_big (by omega), okQ_big (by omega)⟩
    rw [this] at hno; cases hno
  ·
   dsimp only
   refine ac_seq ?_
   refine ac_region ?_
   refine al_y rfl rfl (y_lss rfl rfl rfl) ?_
   refine al_nil ?_
   refine qt_normal ?_
   refine ac_seq ?_
   refine ac_cond rfl (fun h0 => ?_) (fun h0 => ?_)
   ·
    have hlt : 2 < l.length := by simp at h0; omega
    obtain ⟨hx, hy, hch, hc1, hc2⟩ := copF_at (hcp _ (List.getElem_mem hlt)) hat hpl
    refine ac_skip ?_
    refine qt_normal ?_
    refine ac_seq ?_
    refine ac_block ?_
    refine ac_seq ?_
    refine ac_region ?_
    refine al_y rfl rfl (y_moveV rfl rfl) ?_
    refine al_y rfl rfl (y_indexAddr rfl rfl rfl slc26 (by omega) (cps_at hlt) cps_len) ?_
    refine al_y rfl rfl (y_load1 rfl rfl rfl ty34) ?_
    refine al_y rfl rfl (y_assignV rfl rfl) ?_
    refine al_y rfl rfl (y_assignP rfl rfl) ?_
    refine al_nil ?_
    refine qt_normal ?_
    refine ac_seq ?_
    refine ac_seq ?_
    refine ac_draw mixed (by kernel_rfl) rfl ?_
    refine aq_y rfl (y_fieldAddr rfl rfl fld134_0) ?_
    refine aq_y rfl (y_loadN rfl rfl ty25 (by exact Nat.le_of_ble_eq_true rfl)) ?_
    refine aq_y rfl (y_moveP rfl rfl) ?_
    refine aq_y rfl (y_moveV rfl rfl) ?_
    refine aq_y rfl (y_indexAddr rfl rfl rfl slc34 (by omega) (str_at hx) str_len) ?_
    refine aq_y rfl (y_load1 rfl rfl rfl ty9) ?_
    refine aq_y rfl (y_moveV rfl rfl) ?_
    refine aq_y rfl (y_index_SL rfl rfl rfl Tryz.underlying9 (by omega) (by rw [Int.toNat_natCast]; exact List.getElem?_eq_getElem hy)) ?_
    refine aq_y rfl (y_moveV rfl rfl) ?_
    refine aq_y rfl (y_callF (av := [_, _, _]) rfl ⟨rfl, rfl, rfl, trivial⟩ (hch ▸ f119 c _ f hc ⟨hc1, hc2⟩ hf)) ?_
    refine aq_nil ?_
    refine qt_normal ?_
    refine ac_block ?_
    refine ac_seq ?_
    refine ac_region ?_
    refine al_y rfl rfl (y_eql rfl rfl rfl) ?_
    refine al_y rfl rfl (y_assignV rfl rfl) ?_
    refine al_nil ?_
    refine qt_normal ?_
    refine ac_cond rfl (fun h1 => ?_) (fun h1 => ?_)
    ·
     refine ac_seq ?_
     refine ac_region ?_
     refine al_y rfl rfl (y_load_ppA (cs := [_, _, _]) rfl rfl rfl rfl rfl (by exact Nat.le_of_ble_eq_true rfl) rfl ty185) ?_
     refine al_m rfl (m_store rfl rfl rfl rfl rfl rfl (cE_agg rfl) ty185 (by rfl) (by exact Nat.le_of_ble_eq_true rfl)) ?_
     refine al_y rfl rfl (y_assignV rfl rfl) ?_
     refine al_nil ?_
     refine qt_normal ?_
     refine ac_ret ?_
     refine qb_ret ?_
     refine qt_ret ?_
     refine qb_ret ?_
     refine qt_ret ?_
     refine qt_ret ?_
     refine qb_ret ?_
     refine qt_ret ?_
     exact ⟨.inr rfl, ⟨_, rfl, ⟨_, _, rfl, (res_cell rfl rfl rfl rfl ty185 rfl ⟨_, _, rfl, AVle.top _, ⟨_, _, rfl, AVle.top _, ⟨_, _, rfl, AVle.top _, rfl⟩⟩⟩), ⟨_, _, rfl, AVle.refl _, rfl⟩⟩⟩⟩
    ·
     have hn0 : howI c (chF l[2] at' place) f ≠ 0 := by rw [hch]; simpa using h1
     refine ac_seq ?_
     refine ac_region ?_
     refine al_y rfl rfl (y_eql rfl rfl rfl) ?_
     refine al_y rfl rfl (y_assignV rfl rfl) ?_
     refine al_nil ?_
     refine qt_normal ?_
     refine ac_cond rfl (fun h2 => ?_) (fun h2 => ?_)
     ·
      have hwq := how_wrong (c := c) (at' := at') (place := place) (f := f) (n := n.2.2) hlt (by rw [hch]; simpa using h2)
      have hW := hwq.1
      have hq := hwq.2
      refine ac_region ?_
      refine al_y rfl rfl (y_moveV rfl rfl) ?_
      refine al_y rfl rfl (y_indexAddr_arrp rfl rfl rfl rfl rfl arr185 (by omega) (by omega)) ?_
      refine al_y rfl rfl (y_load_pp1 rfl rfl rfl rfl rfl rfl ty3) ?_
      refine al_y rfl rfl (y_add rfl rfl rfl ⟨(by omega), (by omega)⟩) ?_
      refine al_y rfl rfl (y_indexAddr_arrp rfl rfl rfl rfl rfl arr185 (by omega) (by omega)) ?_
      refine al_m rfl (m_store rfl rfl rfl rfl rfl rfl (cE_v rfl) ty3 (by rfl) (by exact Nat.le_of_ble_eq_true rfl)) ?_
      refine al_nil ?_
      refine qb_normal ?_
      refine qt_normal ?_
      refine ac_seq ?_
      refine ac_draw mixed (by kernel_rfl) rfl ?_
      refine aq_y rfl (y_moveV rfl rfl) ?_
      refine aq_y rfl (y_indexAddr_arrp rfl rfl rfl rfl rfl arr185 (by omega) (by omega)) ?_
      refine aq_y rfl (y_load_pp1 rfl rfl rfl rfl rfl rfl ty3) ?_
      refine aq_y rfl (y_fieldAddr rfl rfl fld134_0) ?_
      refine aq_y rfl (y_fieldAddr rfl rfl fld25_2) ?_
      refine aq_y rfl (y_load1 rfl rfl rfl ty3) ?_
      refine aq_y rfl (y_gtr rfl rfl rfl) ?_
      refine aq_nil ?_
      refine qt_normal ?_
      refine ac_cond rfl (fun h3 => ?_) (fun h3 => ?_)
      ·
       refine ac_seq ?_
       refine ac_region ?_
       refine al_y rfl rfl (y_load_ppA (cs := [_, _, _]) rfl rfl rfl rfl rfl (by exact Nat.le_of_ble_eq_true rfl) rfl ty185) ?_
       refine al_m rfl (m_store rfl rfl rfl rfl rfl rfl (cE_agg rfl) ty185 (by rfl) (by exact Nat.le_of_ble_eq_true rfl)) ?_
       refine al_y rfl rfl (y_assignV rfl rfl) ?_
       refine al_nil ?_
       refine qt_normal ?_
       refine ac_ret ?_
       refine qb_ret ?_
       refine qt_ret ?_
       refine qt_ret ?_
       refine qb_ret ?_
       refine qt_ret ?_
       exact ⟨.inr rfl, ⟨_, rfl, ⟨_, _, rfl, (res_cell rfl rfl rfl rfl ty185 rfl ⟨_, _, rfl, AVle.top _, ⟨_, _, rfl, AVle.top _, ⟨_, _, rfl, AVle.top _, rfl⟩⟩⟩), ⟨_, _, rfl, AVle.refl _, rfl⟩⟩⟩⟩
      ·
       have hok : okM3 n c l at' place f 2 = true := by simp only [okM3]; rw [hq]; simpa using h3
       refine ac_skip ?_
       refine qb_normal ?_
       refine qt_normal ?_
       refine ac_region ?_
       refine al_y rfl rfl (y_add rfl rfl rfl ⟨(by omega), (by omega)⟩) ?_
       refine al_y rfl rfl (y_moveV rfl rfl) ?_
       refine al_nil ?_
       exact ⟨⟨3, by omega, (fun i hi => by rcases (show i = 0 ∨ i = 1 ∨ i = 2 by omega) with rfl | rfl | rfl <;> first | exact hok | exact hinv _ (by omega))⟩, by dsimp only; omega, (by refine weak_frM (mem' := [.row [[I (n.1 + wP l at' place f 0), I (n.2.1 + wP l at' place f 1), I (n.2.2 + wP l at' place f 2)]], .row [[I 0, I 0, I 0]]]) [(2, I (at' : Int)), (3, I (place : Int)), (4, I f), (5, .pub (.ptr (eRec c l))), (6, .pp 0 1 0 0), (10, .pp 1 1 0 0), (15, .pub (eCps l)), (16, I (l.length : Int)), (17, I 3)] ?_ ?_; exact ⟨rfl, rfl, rfl, rfl, rfl, rfl, rfl, rfl, rfl, trivial⟩; exact (congrArg (fun z => [PO.row [z], .row [[I 0, I 0, I 0]]]) (by first | rw [hW, Int.add_zero] | rw [hW]; rfl | rw [hW])))⟩
     ·
      have hwq := how_right (c := c) (at' := at') (place := place) (f := f) (n := n.2.2) hlt hn0 (by rw [hch]; simpa using h2)
      have hW := hwq.1
      have hq := hwq.2
      refine ac_skip ?_
      refine qb_normal ?_
      refine qt_normal ?_
      refine ac_seq ?_
      refine ac_draw mixed (by kernel_rfl) rfl ?_
      refine aq_y rfl (y_moveV rfl rfl) ?_
      refine aq_y rfl (y_indexAddr_arrp rfl rfl rfl rfl rfl arr185 (by omega) (by omega)) ?_
      refine aq_y rfl (y_load_pp1 rfl rfl rfl rfl rfl rfl ty3) ?_
      refine aq_y rfl (y_fieldAddr rfl rfl fld134_0) ?_
      refine aq_y rfl (y_fieldAddr rfl rfl fld25_2) ?_
      refine aq_y rfl (y_load1 rfl rfl rfl ty3) ?_
      refine aq_y rfl (y_gtr rfl rfl rfl) ?_
      refine aq_nil ?_
      refine qt_normal ?_
      refine ac_cond rfl (fun h3 => ?_) (fun h3 => ?_)
      ·
       refine ac_seq ?_
       refine ac_region ?_
       refine al_y rfl rfl (y_load_ppA (cs := [_, _, _]) rfl rfl rfl rfl rfl (by exact Nat.le_of_ble_eq_true rfl) rfl ty185) ?_
       refine al_m rfl (m_store rfl rfl rfl rfl rfl rfl (cE_agg rfl) ty185 (by rfl) (by exact Nat.le_of_ble_eq_true rfl)) ?_
       refine al_y rfl rfl (y_assignV rfl rfl) ?_
       refine al_nil ?_
       refine qt_normal ?_
       refine ac_ret ?_
       refine qb_ret ?_
       refine qt_ret ?_
       refine qt_ret ?_
       refine qb_ret ?_
       refine qt_ret ?_
       exact ⟨.inr rfl, ⟨_, rfl, ⟨_, _, rfl, (res_cell rfl rfl rfl rfl ty185 rfl ⟨_, _, rfl, AVle.top _, ⟨_, _, rfl, AVle.top _, ⟨_, _, rfl, AVle.top _, rfl⟩⟩⟩), ⟨_, _, rfl, AVle.refl _, rfl⟩⟩⟩⟩
      ·
       have hok : okM3 n c l at' place f 2 = true := by simp only [okM3]; rw [hq]; simpa using h3
       refine ac_skip ?_
       refine qb_normal ?_
       refine qt_normal ?_
       refine ac_region ?_
       refine al_y rfl rfl (y_add rfl rfl rfl ⟨(by omega), (by omega)⟩) ?_
       refine al_y rfl rfl (y_moveV rfl rfl) ?_
       refine al_nil ?_
       exact ⟨⟨3, by omega, (fun i hi => by rcases (show i = 0 ∨ i = 1 ∨ i = 2 by omega) with rfl | rfl | rfl <;> first | exact hok | exact hinv _ (by omega))⟩, by dsimp only; omega, (by refine weak_frM (mem' := [.row [[I (n.1 + wP l at' place f 0), I (n.2.1 + wP l at' place f 1), I (n.2.2 + wP l at' place f 2)]], .row [[I 0, I 0, I 0]]]) [(2, I (at' : Int)), (3, I (place : Int)), (4, I f), (5, .pub (.ptr (eRec c l))), (6, .pp 0 1 0 0), (10, .pp 1 1 0 0), (15, .pub (eCps l)), (16, I (l.length : Int)), (17, I 3)] ?_ ?_; exact ⟨rfl, rfl, rfl, rfl, rfl, rfl, rfl, rfl, rfl, trivial⟩; exact (congrArg (fun z => [PO.row [z], .row [[I 0, I 0, I 0]]]) (by first | rw [hW, Int.add_zero] | rw [hW]; rfl | rw [hW])))⟩
   ·
    exfalso; have hge : l.length ≤ 2 := by simp at h0; first | omega | simp [h0]
    have : plOk c l at' place f n = true := by
     have := hinv
     simp only [plOk, Bool.and_eq_true]
     exact ⟨hinv 0 (by omega), hinv 1 (by omega), okQ_big (by omega)⟩
    rw [this] at hno; cases hno
  ·
   dsimp only
   refine ac_seq ?_
   refine ac_region ?_
   refine al_y rfl rfl (y_lss rfl rfl rfl) ?_
   refine al_nil ?_
   refine qt_normal ?_
   refine ac_seq ?_
   refine ac_cond rfl (fun h0 => ?_) (fun h0 => ?_)
   ·
    exfalso; simp at h0; omega
   ·
    exfalso; have hge : l.length ≤ 3 := by simp at h0; first | omega | simp [h0]
    have : plOk c l at' place f n = true := by
     have := hinv
     simp only [plOk, Bool.and_eq_true]
     exact ⟨hinv 0 (by omega), hinv 1 (by omega), hinv 2 (by omega)⟩
    rw [this] at hno; cases hno
end Go.Av
end

section
namespace Go.Av
open Go.Proofs
set_option maxRecDepth 100000
set_option maxHeartbeats 1000000
set_option linter.unusedSimpArgs false
variable {G : Glob}
theorem ty134 : tyIs Tryz.prog 134 true 4 = true := by kernel_rfl

theorem b_or (b : Bool) : b = false ∨ b = true := by cases b <;> simp
def plX (c : Cod) (l : List (List (List UInt8))) (at' place : Nat) (f : Int) (n : Int × Int × Int) (x : AV) : AV := if plOk c l at' place f n then x else .top
theorem f137 (c : Cod) (l : List (List (List UInt8))) (n : Int × Int × Int) (at' place : Nat) (f : Int) (hc : codB c = true) (hl : l.length ≤ 3) (hcp : ∀ g ∈ l, copB c g = true) (hat : at' ≤ c.fields.length) (hpl : place < 5) (hf : 0 ≤ f ∧ f ≤ 9) (hn : 0 ≤ n.1 ∧ n.1 ≤ 1000 ∧ 0 ≤ n.2.1 ∧ n.2.1 ≤ 1000 ∧ 0 ≤ n.2.2 ∧ n.2.2 ≤ 1000) : ACall Tryz.prog G 137 [.agg (eRec c l), .agg (eCn n), ei (at' : Int), ei (place : Int), ei f] (.tup [.agg [plX c l at' place f n (ei (plN l at' place f n).1), plX c l at' place f n (ei (plN l at' place f n).2.1), plX c l at' place f n (ei (plN l at' place f n).2.2)], .v (.bool (plOk c l at' place f n))]) := by
  cases h : plOk c l at' place f n with
  | true =>
    have := f137_ok (G := G) c l n at' place f hc hl hcp hat hpl hf hn h
    simp only [plX, h, if_true]
    exact this
  | false =>
    have := f137_no (G := G) c l n at' place f hc hl hcp hat hpl hf hn h
    simp only [plX, h, Bool.false_eq_true, if_false]
    exact this
def cntB (f : Nat → Bool) (k : Nat) : Nat := ((List.range k).filter f).length
theorem cntB_succ (f : Nat → Bool) (k : Nat) : cntB f (k + 1) = if f k then cntB f k + 1 else cntB f k := by
  unfold cntB
  rw [List.range_succ, List.filter_append]
  cases h : f k <;> simp [h]
theorem filter_at {f : Nat → Bool} : ∀ {n k : Nat}, k < n → f k = true → ((List.range n).filter f)[cntB f k]? = some k := by
  intro n
  induction n with
  | zero => intro k h; omega
  | succ n ih =>
    intro k hk hf
    rw [List.range_succ, List.filter_append]
    by_cases h : k < n
    · rw [List.getElem?_append_left]
      · exact ih h hf
      · have := ih h hf
        exact (List.getElem?_eq_some_iff.1 this).1
    · have : k = n := by omega
      subst this
      rw [List.getElem?_append_right (by unfold cntB; omega)]
      simp [cntB, hf]
theorem ic_weak {P : Program} {C : Cx P G} {ph : Ph} {st st' : ASt} {Q : Exit → Ph → ASt → Prop} (hw : Weak st st') {c : Code} (h : ACodeI C c ph st' Q) : ACodeI C c ph st Q := fun w0 ok0 a w hc hs => h w0 ok0 a w hc (hw w0 ok0 a w hs)
def canL (c : Cod) (l : List (List (List UInt8))) (at' place : Nat) (n : Int × Int × Int) : List Nat := (List.range 10).filter fun f => plOk c l at' place (f : Int) n
def canQ (c : Cod) (l : List (List (List UInt8))) (at' place : Nat) (n : Int × Int × Int) : List (List AV) := (canL c l at' place n).map fun (f : Nat) => [ei (f : Int), .agg (eCn (plN l at' place (f : Int) n))]
theorem canQ_at {c : Cod} {l : List (List (List UInt8))} {at' place : Nat} {n : Int × Int × Int} {k : Nat} (hk : k < 10) (hb : plOk c l at' place (k : Int) n = true) : (canQ c l at' place n)[cntB (fun f => plOk c l at' place (f : Int) n) k]? = some [ei (k : Int), .agg (eCn (plN l at' place (k : Int) n))] := by
  unfold canQ canL
  rw [List.getElem?_map, filter_at (f := fun f => plOk c l at' place (f : Int) n) hk hb]
  rfl
theorem canQ_len {c : Cod} {l : List (List (List UInt8))} {at' place : Nat} {n : Int × Int × Int} : (canQ c l at' place n).length = cntB (fun f => plOk c l at' place (f : Int) n) 10 := by simp [canQ, canL, cntB]

theorem plX_eq {c : Cod} {l : List (List (List UInt8))} {at' place : Nat} {f : Int} {n : Int × Int × Int} (h : plOk c l at' place f n = true) : [plX c l at' place f n (ei (plN l at' place f n).1), plX c l at' place f n (ei (plN l at' place f n).2.1), plX c l at' place f n (ei (plN l at' place f n).2.2)] = eCn (plN l at' place f n) := by
  simp only [plX, h, if_true]; rfl

theorem it166 (c : Cod) (l : List (List (List UInt8))) (n : Int × Int × Int) (at' place : Nat) (hc : codB c = true) (hl : l.length ≤ 3) (hcp : ∀ g ∈ l, copB c g = true) (hat : at' ≤ c.fields.length) (hpl : place < 5) (hn : 0 ≤ n.1 ∧ n.1 ≤ 1000 ∧ 0 ≤ n.2.1 ∧ n.2.1 ≤ 1000 ∧ 0 ≤ n.2.2 ∧ n.2.2 ≤ 1000) : IterC Tryz.prog G 166 [] [.ptr (eRec c l), .ptr (eCn n), .ptr [ei (at' : Int)], .ptr [ei (place : Int)]] (canQ c l at' place n) := by
 refine iter_of (qs := (canQ c l at' place n)) Tryz.func166 rfl (by kernel_rfl) rfl rfl (fun C hC => ?_)
 refine ic_seq ?_
 refine ic_of ?_
 refine ac_region ?_
 refine al_y rfl rfl (y_moveV rfl rfl) ?_
 refine al_nil ?_
 refine it_normal ?_
 refine ic_block ?_
 refine ic_loop (ι := { k : Nat // k ≤ 10 }) (fun k => ⟨Tryz.f166.ntmps, frL [(0, .pub (.v (.func (.yield C.l) #[] #[]))), (1, .pub (.ptr (eRec c l))), (2, .pub (.ptr (eCn n))), (3, .pub (.ptr [ei (at' : Int)])), (4, .pub (.ptr [ei (place : Int)])), (9, I (k.1 : Int))], []⟩) (fun k => .on (cntB (fun f => plOk c l at' place (f : Int) n) k.1)) (fun k => 10 - k.1) (⟨0, by omega⟩) rfl ?_ ?_
 ·
  exact weak_frM _ ⟨rfl, rfl, rfl, rfl, rfl, rfl, trivial⟩ (rfl)
 ·
  rintro ⟨k, hk⟩
  dsimp only
  refine ic_seq ?_
  refine ic_of ?_
  refine ac_region ?_
  refine al_y rfl rfl (y_lss rfl rfl rfl) ?_
  refine al_nil ?_
  refine it_normal ?_
  refine ic_seq ?_
  refine ic_cond rfl (fun h0 => ?_) (fun h0 => ?_)
  ·
   have hlt : k < 10 := by simp at h0; omega
   refine ic_skip ?_
   refine it_normal ?_
   refine ic_seq ?_
   refine ic_block ?_
   refine ic_seq ?_
   refine ic_of ?_
   refine ac_region ?_
   refine al_y rfl rfl (y_moveV rfl rfl) ?_
   refine al_y rfl rfl (y_assignV rfl rfl) ?_
   refine al_nil ?_
   refine it_normal ?_
   refine ic_seq ?_
   refine ic_of ?_
   refine ac_region ?_
   refine al_y rfl rfl (y_loadN rfl rfl ty134 (by exact Nat.le_of_ble_eq_true rfl)) ?_
   refine al_y rfl rfl (y_loadN rfl rfl ty185 (by exact Nat.le_of_ble_eq_true rfl)) ?_
   refine al_y rfl rfl (y_load1 rfl rfl rfl ty3) ?_
   refine al_y rfl rfl (y_load1 rfl rfl rfl ty3) ?_
   refine al_y rfl rfl (y_moveV rfl rfl) ?_
   refine al_y rfl rfl (y_callF (av := [_, _, _, _, _]) rfl ⟨rfl, rfl, rfl, rfl, rfl, trivial⟩ (f137 c l n at' place (k : Int) hc hl hcp hat hpl (by omega) hn)) ?_
   refine al_y rfl rfl (y_moveP rfl rfl) ?_
   refine al_y rfl rfl (y_extract rfl rfl rfl) ?_
   refine al_y rfl rfl (y_extract rfl rfl rfl) ?_
   refine al_pair  rfl rfl rfl rfl rfl rfl rfl zv185 ty185 rfl (by rfl) (cE_agg rfl) rfl ?_
   refine al_y rfl rfl (y_assignV rfl rfl) ?_
   refine al_nil ?_
   refine it_normal ?_
   refine ic_seq ?_
   refine Or.elim (b_or (plOk c l at' place (k : Int) n)) (fun hb => ?_) (fun hb => ?_)
   ·
    refine ic_weak (weak_frM (mem' := []) [(0, .pub (.v (.func (.yield C.l) #[] #[]))), (1, .pub (.ptr (eRec c l))), (2, .pub (.ptr (eCn n))), (3, .pub (.ptr [ei (at' : Int)])), (4, .pub (.ptr [ei (place : Int)])), (6, I (k : Int)), (8, B false), (9, I (k : Int))] ⟨rfl, rfl, rfl, rfl, rfl, rfl, congrArg B hb, rfl, trivial⟩ rfl) ?_
    refine ic_region ?_
    refine il_y rfl rfl (y_moveV rfl rfl) ?_
    refine il_y rfl rfl (y_moveV rfl rfl) ?_
    refine il_maybe (x := .pub .top) rfl rfl rfl (fun h => absurd h (by decide)) ?_
    refine il_maybe (x := .pub .top) rfl rfl rfl (fun h => absurd h (by decide)) ?_
    refine il_maybe (x := .pub .top) rfl rfl rfl (fun h => absurd h (by decide)) ?_
    refine il_yield (q := []) (c := false) rfl rfl rfl rfl (fun h => absurd h (by decide)) (fun h => absurd h (by decide)) (fun h => absurd h (by decide)) rfl rfl rfl rfl rfl (fun _ => ?_) (fun h => absurd h (by decide)) (fun h => absurd h (by decide))
    refine il_maybe (x := .pub .top) rfl rfl rfl (fun h => absurd h (by decide)) ?_
    refine il_y rfl rfl (y_pick rfl rfl (fun h => absurd h (by decide)) (fun _ => rfl)) ?_
    refine il_nil ?_
    refine it_normal ?_
    refine ic_cond (b := false) rfl (fun h => absurd h (by decide)) (fun _ => ?_)
    refine ic_skip ?_
    refine ib_normal ?_
    refine it_normal ?_
    refine ic_of ?_
    refine ac_region ?_
    refine al_y rfl rfl (y_add rfl rfl rfl ⟨(by omega), (by omega)⟩) ?_
    refine al_y rfl rfl (y_moveV rfl rfl) ?_
    refine al_nil ?_
    exact ⟨⟨k + 1, by omega⟩, by dsimp only; omega, by simp only [cntB_succ, hb]; rfl, weak_frM _ ⟨rfl, rfl, rfl, rfl, rfl, rfl, trivial⟩ rfl⟩
   ·
    refine ic_weak (weak_frM (mem' := []) [(0, .pub (.v (.func (.yield C.l) #[] #[]))), (1, .pub (.ptr (eRec c l))), (2, .pub (.ptr (eCn n))), (3, .pub (.ptr [ei (at' : Int)])), (4, .pub (.ptr [ei (place : Int)])), (6, I (k : Int)), (7, .pub (.ptr (eCn (plN l at' place (k : Int) n)))), (8, B true), (9, I (k : Int))] ⟨rfl, rfl, rfl, rfl, rfl, rfl, (congrArg (fun z => EV.pub (.ptr z)) (plX_eq hb)), congrArg B hb, rfl, trivial⟩ rfl) ?_
    refine ic_region ?_
    refine il_y rfl rfl (y_moveV rfl rfl) ?_
    refine il_y rfl rfl (y_moveV rfl rfl) ?_
    refine il_maybe rfl rfl rfl (fun _ => y_moveV rfl rfl) ?_
    refine il_maybe rfl rfl rfl (fun _ => y_moveV rfl rfl) ?_
    refine il_maybe rfl rfl rfl (fun _ => y_loadN rfl rfl ty185 (by exact Nat.le_of_ble_eq_true rfl)) ?_
    refine il_yield (q := [ei (k : Int), .agg (eCn (plN l at' place (k : Int) n))]) (c := true) rfl rfl rfl rfl (fun _ => rfl) (fun _ => rfl) (fun _ => by rw [hC]; exact canQ_at (by omega) hb) rfl rfl rfl rfl rfl (fun h => absurd h (by decide)) (fun _ => ?_) (fun _ => ?_)
    ·
     refine il_maybe rfl rfl rfl (fun _ => y_not rfl rfl) ?_
     refine il_y rfl rfl (y_pick rfl rfl (fun _ => rfl) (fun h => absurd h (by decide))) ?_
     refine il_nil ?_
     refine it_normal ?_
     refine ic_cond (b := false) rfl (fun h => absurd h (by decide)) (fun _ => ?_)
     refine ic_skip ?_
     refine ib_normal ?_
     refine it_normal ?_
     refine ic_of ?_
     refine ac_region ?_
     refine al_y rfl rfl (y_add rfl rfl rfl ⟨(by omega), (by omega)⟩) ?_
     refine al_y rfl rfl (y_moveV rfl rfl) ?_
     refine al_nil ?_
     exact ⟨⟨k + 1, by omega⟩, by dsimp only; omega, by simp only [cntB_succ, hb]; rfl, weak_frM _ ⟨rfl, rfl, rfl, rfl, rfl, rfl, trivial⟩ rfl⟩
    ·
     refine il_maybe rfl rfl rfl (fun _ => y_not rfl rfl) ?_
     refine il_y rfl rfl (y_pick rfl rfl (fun _ => rfl) (fun h => absurd h (by decide))) ?_
     refine il_nil ?_
     refine it_normal ?_
     refine ic_cond (b := true) rfl (fun _ => ?_) (fun h => absurd h (by decide))
     refine ic_ret ?_
     refine ib_ret ?_
     refine it_ret ?_
     refine it_ret ?_
     refine ib_ret ?_
     exact ⟨.inr rfl, rfl, .inr ⟨_, rfl⟩⟩
  ·
   have hge : 10 ≤ k := by simp at h0; omega
   refine ic_exit ?_
   refine it_exit ?_
   refine it_exit ?_
   refine ib_exit ?_
   exact ⟨.inl rfl, rfl, .inl (by rw [canQ_len, show 10 = k from by omega])⟩

theorem f138 (c : Cod) (l : List (List (List UInt8))) (n : Int × Int × Int) (at' place : Int) : ACall Tryz.prog G 138 [.agg (eRec c l), .agg (eCn n), ei at', ei place] (.fn 166 [] [.ptr (eRec c l), .ptr (eCn n), .ptr [ei at'], .ptr [ei place]]) := by
 refine acall_of Tryz.func138 rfl (by kernel_rfl) rfl ?_
 refine ac_seq ?_
 refine ac_region ?_
 refine al_y rfl rfl (y_box rfl (cE_agg rfl)) ?_
 refine al_y rfl rfl (y_box rfl (cE_agg rfl)) ?_
 refine al_y rfl rfl (y_box (cs := [_]) rfl (cE_v rfl)) ?_
 refine al_y rfl rfl (y_box (cs := [_]) rfl (cE_v rfl)) ?_
 refine al_y rfl rfl (y_assignV rfl rfl) ?_
 refine al_nil ?_
 refine qt_normal ?_
 refine ac_seq ?_
 refine ac_region ?_
 refine al_y rfl rfl (y_makeFunc (fs := []) (cs := [_, _, _, _]) rfl rfl rfl) ?_
 refine al_y rfl rfl (y_assignP rfl rfl) ?_
 refine al_nil ?_
 refine qt_normal ?_
 refine ac_ret ?_
 exact ⟨.inr rfl, AVle.refl _⟩
end Go.Av
end
