/- Can. · The reference's Can; brief. -/
import Derived.Test.YtaphehlgijlfeaaGreatDoorWiE
set_option linter.unusedVariables false
set_option linter.unusedSimpArgs false
section
namespace Go.Av
open Go.Proofs
set_option maxRecDepth 100000
set_option maxHeartbeats 1000000
set_option linter.unusedSimpArgs false
variable {G : Glob}

def figL (g : G5) : List Int := [g.a, g.b, g.c, g.d, g.e]
def figA (g : G5) (k : Nat) : Int := (figL g).getD k 0
theorem eFg_at {g : G5} {k : Nat} (h : k < 5) : (eFg g)[k]? = some (.v (.int .i64 (figA g k))) := by
  match k, h with
  | 0, _ => rfl
  | 1, _ => rfl
  | 2, _ => rfl
  | 3, _ => rfl
  | 4, _ => rfl
theorem figA_bd {g : G5} (h : g.ok) {k : Nat} (hk : k < 5) : 0 ≤ figA g k ∧ figA g k ≤ 9 := by
  unfold G5.ok at h
  match k, hk with
  | 0, _ => exact h.1
  | 1, _ => exact h.2.1
  | 2, _ => exact h.2.2.1
  | 3, _ => exact h.2.2.2.1
  | 4, _ => exact h.2.2.2.2
/-- The characters of a group that was received, with the figures that were sent. -/
def five (g : G5) (w : List UInt8) : List (Int × Int) := (w.map fun b => (b.toNat : Int)).zip (figL g)
theorem five_len {g : G5} {w : List UInt8} (h : w.length = 5) : (five g w).length = 5 := by simp [five, figL, h]
theorem five_at {g : G5} {w : List UInt8} (h : w.length = 5) {k : Nat} (hk : k < 5) : (five g w)[k]'(by rw [five_len h]; exact hk) = ((w[k].toNat : Int), figA g k) := by
  have e : (figL g)[k]'(by simp [figL]; omega) = figA g k := by
    unfold figA
    rw [List.getD_eq_getElem?_getD, List.getElem?_eq_getElem (by simp [figL]; omega)]; rfl
  simp [five, e]
def okP (c : Cod) (x : Int × Int) : Bool := rgt x.1 x.2 || wrg c x.1 x.2
def wrN (x : Int × Int) : Int := if rgt x.1 x.2 then 0 else 1
def cntW (xs : List (Int × Int)) : Int := xs.foldl (fun s x => s + wrN x) 0
def cntP (l : List (List (Int × Int))) : Int := l.foldl (fun s xs => s + cntW xs) 0
theorem cntW_step {xs : List (Int × Int)} {k : Nat} (h : k < xs.length) : cntW (xs.take (k + 1)) = cntW (xs.take k) + wrN xs[k] := by
  unfold cntW; rw [List.take_succ_eq_append_getElem h, List.foldl_append]; rfl
theorem cntP_step {l : List (List (Int × Int))} {k : Nat} (h : k < l.length) : cntP (l.take (k + 1)) = cntP (l.take k) + cntW l[k] := by
  unfold cntP; rw [List.take_succ_eq_append_getElem h, List.foldl_append]; rfl
theorem cntW_bd (xs : List (Int × Int)) : 0 ≤ cntW xs ∧ cntW xs ≤ xs.length := by
  have key : ∀ (xs : List (Int × Int)) (t : Int), t ≤ xs.foldl (fun s x => s + wrN x) t ∧ xs.foldl (fun s x => s + wrN x) t ≤ t + xs.length := by
    intro xs
    induction xs with
    | nil => intro t; simp
    | cons x xs ih =>
      intro t
      have h1 := ih (t + wrN x)
      have h2 : 0 ≤ wrN x ∧ wrN x ≤ 1 := by unfold wrN; split <;> omega
      simp only [List.foldl_cons, List.length_cons]
      omega
  have := key xs 0
  unfold cntW; omega
theorem cntP_bd (l : List (List (Int × Int))) (h : ∀ xs ∈ l, xs.length ≤ 5) : 0 ≤ cntP l ∧ cntP l ≤ 5 * l.length := by
  have key : ∀ (l : List (List (Int × Int))), (∀ xs ∈ l, xs.length ≤ 5) → ∀ t : Int, t ≤ l.foldl (fun s xs => s + cntW xs) t ∧ l.foldl (fun s xs => s + cntW xs) t ≤ t + 5 * l.length := by
    intro l
    induction l with
    | nil => intro _ t; simp
    | cons w l ih =>
      intro hl t
      have h1 := ih (fun v hv => hl v (List.mem_cons_of_mem _ hv)) (t + cntW w)
      have h2 := cntW_bd w
      have h3 := hl w (List.mem_cons_self ..)
      simp only [List.foldl_cons, List.length_cons]
      omega
  have := key l h 0
  unfold cntP; omega
def prs (m : List Int) (l : List (List UInt8)) : List (List (Int × Int)) := ((grps m).zip l).map fun p => five p.1 p.2
def canB (c : Cod) (m : List Int) (l : List (List UInt8)) : Bool := ((prs m l).all fun xs => xs.all (okP c)) && decide (cntP (prs m l) ≤ c.most)
theorem prs_at {m : List Int} {l : List (List UInt8)} {q : Nat} (h1 : q < (grps m).length) (h2 : q < l.length) : (prs m l)[q]'(by simp [prs]; omega) = five (grps m)[q] l[q] := by simp [prs]
theorem prs_len5 {m : List Int} {l : List (List UInt8)} (h : ∀ w ∈ l, w.length = 5) : ∀ xs ∈ prs m l, xs.length ≤ 5 := fun xs hx => by
  obtain ⟨p, hp, rfl⟩ := List.mem_map.1 hx
  have := h p.2 (List.of_mem_zip hp).2
  rw [five_len this]; omega
theorem howI_0 {c : Cod} {a b : Int} : howI c a b = 0 ↔ okP c (a, b) = false := by
  unfold howI okP; cases rgt a b <;> cases wrg c a b <;> simp
theorem howI_2 {c : Cod} {a b : Int} (h : okP c (a, b) = true) : howI c a b = 2 ↔ rgt a b = false := by
  unfold okP at h; unfold howI; cases hr : rgt a b <;> simp_all
theorem cop_at {c : Cod} {l : List (List UInt8)} (h : copB c l = true) : (l.length : Int) = (c.fields.length : Int) + 1 ∧ ∀ w ∈ l, ofB copR w = true := by
  simp only [copB, Bool.and_eq_true, List.all_eq_true, beq_iff_eq] at h
  exact ⟨h.2.1, h.1⟩
theorem copR_bd {b : UInt8} (h : copR (b.toNat : Int) = true) : 48 ≤ (b.toNat : Int) ∧ (b.toNat : Int) ≤ 63 := by
  simp only [copR, figR, holR, Bool.or_eq_true, Bool.and_eq_true, decide_eq_true_eq] at h
  omega
theorem msg_len {c : Cod} {m : List Int} (h : msgB c m = true) : m.length = c.fields.length := by simp [msgB, eqF] at h; exact h.1

/-- wire.Can -/
theorem f66_bad (c : Cod) (m : List Int) (l : List (List UInt8)) (hc : c.fields.length ≤ 1000 ∧ c.turns.length ≤ 1000) (hm1 : m.length ≤ 1000) (hl1 : l.length ≤ 1000) (hb : (codB c && msgB c m && copB c l) = false) : ACall Tryz.prog G 66 [.agg (eCod c), eInts m, eStrs l] (.tup [.v (.bool false), ei 2]) := by
  refine acall_of Tryz.func66 rfl (by kernel_rfl) rfl ?_
  refine ac_seq ?_
  refine ac_region ?_
  refine al_y rfl rfl (y_box rfl (cE_agg rfl)) ?_
  refine al_y rfl rfl (y_assignV rfl rfl) ?_
  refine al_y rfl rfl (y_assignV rfl rfl) ?_
  refine al_nil ?_
  refine qt_normal ?_
  refine ac_seq ?_
  refine ac_seq ?_
  refine ac_region ?_
  refine al_y rfl rfl (y_loadN rfl rfl ty25 (by exact Nat.le_of_ble_eq_true rfl)) ?_
  refine al_y rfl rfl (y_callF (av := [_]) rfl ⟨rfl, trivial⟩ (f116 c hc)) ?_
  refine al_y rfl rfl (y_not rfl rfl) ?_
  refine al_y rfl rfl (y_moveV rfl rfl) ?_
  refine al_maybe rfl rfl rfl (fun hg => y_loadN rfl rfl ty25 (by exact Nat.le_of_ble_eq_true rfl)) ?_
  refine al_maybe rfl rfl rfl (fun hg => y_moveP rfl rfl) ?_
  refine al_maybe rfl rfl rfl (fun hg => y_callF (av := [_, _]) rfl ⟨((if_pos hg)), ((if_pos hg)), trivial⟩ (f117 c m hm1)) ?_
  refine al_maybe rfl rfl rfl (fun hg => y_not rfl (if_pos hg)) ?_
  refine al_y rfl rfl (y_or rfl rfl rfl rfl) ?_
  refine al_y rfl rfl (y_moveV rfl rfl) ?_
  refine al_maybe rfl rfl rfl (fun hg => y_loadN rfl rfl ty25 (by exact Nat.le_of_ble_eq_true rfl)) ?_
  refine al_maybe rfl rfl rfl (fun hg => y_moveP rfl rfl) ?_
  refine al_maybe rfl rfl rfl (fun hg => y_callF (av := [_, _]) rfl ⟨((if_pos hg)), ((if_pos hg)), trivial⟩ (f118 c l hl1 hc.1)) ?_
  refine al_maybe rfl rfl rfl (fun hg => y_not rfl (if_pos hg)) ?_
  refine al_y rfl rfl (y_or rfl rfl rfl rfl) ?_
  refine al_nil ?_
  refine qt_normal ?_
  refine ac_cond rfl (fun h0 => ?_) (fun h0 => ?_)
  · skip
    refine ac_seq ?_
    refine ac_region ?_
    refine al_y rfl rfl (y_assignV rfl rfl) ?_
    refine al_y rfl rfl (y_assignV rfl rfl) ?_
    refine al_nil ?_
    refine qt_normal ?_
    refine ac_ret ?_
    refine qt_ret ?_
    exact ⟨.inr rfl, ⟨_, rfl, ⟨_, _, rfl, AVle.refl _, ⟨_, _, rfl, AVle.refl _, rfl⟩⟩⟩⟩
  · skip
    exfalso; cases h1 : codB c <;> cases h2 : msgB c m <;> cases h3 : copB c l <;> simp_all

/-- wire.Can -/
theorem f66_ok (c : Cod) (m : List Int) (l : List (List UInt8)) (hc : c.fields.length ≤ 1000 ∧ c.turns.length ≤ 1000) (hm1 : m.length ≤ 1000) (hl1 : l.length ≤ 1000) (hkc : codB c = true) (hkm : msgB c m = true) (hkl : copB c l = true) : ACall Tryz.prog G 66 [.agg (eCod c), eInts m, eStrs l] (.tup [.v (.bool (canB c m l)), ei 0]) := by
  have hcp := cop_at hkl
  have hml := msg_len hkm
  have hgl : (grps m).length = m.length + 1 := by simp [grps]
  have hpl : (prs m l).length = (grps m).length := by simp [prs]; omega
  have h5 : ∀ w ∈ l, w.length = 5 := fun w hw => ofB_len (hcp.2 w hw)
  have hp5 := prs_len5 (m := m) h5
  refine acall_of Tryz.func66 rfl (by kernel_rfl) rfl ?_
  refine ac_seq ?_
  refine ac_region ?_
  refine al_y rfl rfl (y_box rfl (cE_agg rfl)) ?_
  refine al_y rfl rfl (y_assignV rfl rfl) ?_
  refine al_y rfl rfl (y_assignV rfl rfl) ?_
  refine al_nil ?_
  refine qt_normal ?_
  refine ac_seq ?_
  refine ac_seq ?_
  refine ac_region ?_
  refine al_y rfl rfl (y_loadN rfl rfl ty25 (by exact Nat.le_of_ble_eq_true rfl)) ?_
  refine al_y rfl rfl (y_callF (av := [_]) rfl ⟨rfl, trivial⟩ (f116 c hc)) ?_
  refine al_y rfl rfl (y_not rfl rfl) ?_
  refine al_y rfl rfl (y_moveV rfl rfl) ?_
  refine al_maybe rfl rfl rfl (fun hg => y_loadN rfl rfl ty25 (by exact Nat.le_of_ble_eq_true rfl)) ?_
  refine al_maybe rfl rfl rfl (fun hg => y_moveP rfl rfl) ?_
  refine al_maybe rfl rfl rfl (fun hg => y_callF (av := [_, _]) rfl ⟨((if_pos hg)), ((if_pos hg)), trivial⟩ (f117 c m hm1)) ?_
  refine al_maybe rfl rfl rfl (fun hg => y_not rfl (if_pos hg)) ?_
  refine al_y rfl rfl (y_or rfl rfl rfl rfl) ?_
  refine al_y rfl rfl (y_moveV rfl rfl) ?_
  refine al_maybe rfl rfl rfl (fun hg => y_loadN rfl rfl ty25 (by exact Nat.le_of_ble_eq_true rfl)) ?_
  refine al_maybe rfl rfl rfl (fun hg => y_moveP rfl rfl) ?_
  refine al_maybe rfl rfl rfl (fun hg => y_callF (av := [_, _]) rfl ⟨((if_pos hg)), ((if_pos hg)), trivial⟩ (f118 c l hl1 hc.1)) ?_
  refine al_maybe rfl rfl rfl (fun hg => y_not rfl (if_pos hg)) ?_
  refine al_y rfl rfl (y_or rfl rfl rfl rfl) ?_
  refine al_nil ?_
  refine qt_normal ?_
  refine ac_cond rfl (fun h0 => ?_) (fun h0 => ?_)
  · skip
    exfalso; cases h1 : codB c <;> cases h2 : msgB c m <;> cases h3 : copB c l <;> simp_all
  · skip
    refine ac_skip ?_
    refine qt_normal ?_
    refine ac_seq ?_
    refine ac_region ?_
    refine al_y rfl rfl (y_assignV rfl rfl) ?_
    refine al_nil ?_
    refine qt_normal ?_
    refine ac_seq ?_
    refine ac_seq ?_
    refine ac_region ?_
    refine al_y rfl rfl (y_moveP rfl rfl) ?_
    refine al_y rfl rfl (y_callF (av := [_]) rfl ⟨rfl, trivial⟩ (f99 m hm1 (msg_bd' hkc hkm))) ?_
    refine al_y rfl rfl (y_len rfl rfl rfl Tryz.underlying145) ?_
    refine al_y rfl rfl (y_moveV rfl rfl) ?_
    refine al_nil ?_
    refine qt_normal ?_
    refine ac_block ?_
    refine ac_loop (ι := { q : Nat // q ≤ (grps m).length ∧ ((prs m l).take q).all (fun xs => xs.all (okP c)) = true }) (fun q => ⟨Tryz.f66.ntmps, frL [(2, .pub (eStrs l)), (3, .pub (.ptr (eCod c))), (8, I (cntP ((prs m l).take q.1))), (29, .pub (.sl ((grps m).map eFg))), (30, I ((grps m).length : Int)), (31, I (q.1 : Int))], []⟩) (fun q => (grps m).length - q.1) (⟨0, by simp⟩) ?_ ?_
    · exact weak_frM _ ⟨rfl, rfl, rfl, rfl, (congrArg (fun x : Nat => I (x : Int)) (List.length_map _)), rfl, trivial⟩ (rfl)
    · rintro ⟨q, hq⟩
      dsimp only
      refine ac_seq ?_
      refine ac_region ?_
      refine al_y rfl rfl (y_lss rfl rfl rfl) ?_
      refine al_nil ?_
      refine qt_normal ?_
      refine ac_seq ?_
      refine ac_cond rfl (fun h1 => ?_) (fun h1 => ?_)
      · skip
        have hlt : q < (grps m).length := by simpa using h1
        have hll : q < l.length := by omega
        have hw5 := h5 _ (List.getElem_mem hll)
        have hpq := prs_at hlt hll
        have hcn := cntP_bd ((prs m l).take q) (fun xs hx => hp5 xs (List.mem_of_mem_take hx))
        have htk : ((prs m l).take q).length ≤ q := by simp; omega
        have hf5 := five_len (g := (grps m)[q]) hw5
        refine ac_skip ?_
        refine qt_normal ?_
        refine ac_seq ?_
        refine ac_block ?_
        refine ac_seq ?_
        refine ac_region ?_
        refine al_y rfl rfl (y_moveV rfl rfl) ?_
        refine al_y rfl rfl (y_indexAddr rfl rfl rfl slc145 (by omega) (g_at hlt) g_len) ?_
        refine al_y rfl rfl (y_loadN rfl rfl ty118 (by exact Nat.le_of_ble_eq_true rfl)) ?_
        refine al_pair2  rfl rfl rfl rfl rfl rfl rfl rfl (y_assignV rfl rfl) rfl rfl rfl zv118 ty118 rfl (by rfl) (cE_agg rfl) rfl ?_
        refine al_nil ?_
        refine qt_normal ?_
        refine ac_seq ?_
        refine ac_region ?_
        refine al_y rfl rfl (y_loadN rfl rfl ty118 (by exact Nat.le_of_ble_eq_true rfl)) ?_
        refine al_y rfl rfl (y_moveV rfl rfl) ?_
        refine al_nil ?_
        refine qt_normal ?_
        refine ac_block ?_
        refine ac_loop (ι := { k : Nat // k ≤ 5 ∧ ((five (grps m)[q] l[q]).take k).all (okP c) = true }) (fun k => ⟨Tryz.f66.ntmps, frL [(2, .pub (eStrs l)), (3, .pub (.ptr (eCod c))), (8, I (cntP ((prs m l).take q) + cntW ((five (grps m)[q] l[q]).take k.1))), (9, I (q : Int)), (29, .pub (.sl ((grps m).map eFg))), (30, I ((grps m).length : Int)), (31, I (q : Int)), (36, .pub (.agg (eFg (grps m)[q]))), (37, I (k.1 : Int))], []⟩) (fun k => 5 - k.1) (⟨0, by simp⟩) ?_ ?_
        · exact weak_frM _ ⟨rfl, rfl, (congrArg (fun x : Int => I x) (by simp [cntW])), rfl, rfl, rfl, rfl, rfl, rfl, trivial⟩ (rfl)
        · rintro ⟨k, hk⟩
          dsimp only
          refine ac_seq ?_
          refine ac_region ?_
          refine al_y rfl rfl (y_lss rfl rfl rfl) ?_
          refine al_nil ?_
          refine qt_normal ?_
          refine ac_seq ?_
          refine ac_cond rfl (fun h2 => ?_) (fun h2 => ?_)
          · skip
            have hk5 : k < 5 := by simp at h2; omega
            have hkl2 : k < l[q].length := by omega
            have hfa := figA_bd (grps_ok _ (List.getElem_mem hlt)) hk5
            have hch := copR_bd (ofB_at (hcp.2 _ (List.getElem_mem hll)) hkl2)
            have hfv := five_at (g := (grps m)[q]) hw5 hk5
            have hcb := cntW_bd ((five (grps m)[q] l[q]).take k)
            have hct : ((five (grps m)[q] l[q]).take k).length ≤ 5 := by simp; omega
            have hcs := cntW_step (xs := five (grps m)[q] l[q]) (k := k) (by omega)
            refine ac_skip ?_
            refine qt_normal ?_
            refine ac_seq ?_
            refine ac_block ?_
            refine ac_seq ?_
            refine ac_region ?_
            refine al_y rfl rfl (y_moveV rfl rfl) ?_
            refine al_y rfl rfl (y_index_arr rfl rfl rfl arr118 (fun e he => by rw [Tryz.underlying118] at he; cases he; exact ty3) (by omega) (by omega) (by rw [Int.toNat_natCast]; exact eFg_at hk5)) ?_
            refine al_y rfl rfl (y_assignV rfl rfl) ?_
            refine al_y rfl rfl (y_assignV rfl rfl) ?_
            refine al_nil ?_
            refine qt_normal ?_
            refine ac_seq ?_
            refine ac_draw mixed (by kernel_rfl) rfl ?_
            refine aq_y rfl (y_loadN rfl rfl ty25 (by exact Nat.le_of_ble_eq_true rfl)) ?_
            refine aq_y rfl (y_moveP rfl rfl) ?_
            refine aq_y rfl (y_moveV rfl rfl) ?_
            refine aq_y rfl (y_indexAddr rfl rfl rfl slc34 (by omega) (str_at hll) str_len) ?_
            refine aq_y rfl (y_load1 rfl rfl rfl ty9) ?_
            refine aq_y rfl (y_moveV rfl rfl) ?_
            refine aq_y rfl (y_index_SL rfl rfl rfl Tryz.underlying9 (by omega) (by rw [Int.toNat_natCast]; exact List.getElem?_eq_getElem hkl2)) ?_
            refine aq_y rfl (y_moveV rfl rfl) ?_
            refine aq_y rfl (y_callF (av := [_, _, _]) rfl ⟨rfl, rfl, rfl, trivial⟩ (f119 c (l[q][k].toNat : Int) (figA (grps m)[q] k) hkc hch hfa)) ?_
            refine aq_nil ?_
            refine qt_normal ?_
            refine ac_block ?_
            refine ac_seq ?_
            refine ac_region ?_
            refine al_y rfl rfl (y_eql rfl rfl rfl) ?_
            refine al_y rfl rfl (y_assignV rfl rfl) ?_
            refine al_nil ?_
            refine qt_normal ?_
            refine ac_cond rfl (fun h3 => ?_) (fun h3 => ?_)
            · skip
              have hno : okP c ((l[q][k].toNat : Int), figA (grps m)[q] k) = false := howI_0.1 (by simpa using h3)
              have hno2 : (five (grps m)[q] l[q]).all (okP c) = false := all_no (k := k) (by omega) (by rw [hfv]; exact hno)
              have hall : (prs m l).all (fun xs => xs.all (okP c)) = false := all_no (l := prs m l) (p := fun xs => xs.all (okP c)) (k := q) (by omega) (by rw [hpq]; exact hno2)
              refine ac_seq ?_
              refine ac_region ?_
              refine al_y rfl rfl (y_assignV rfl rfl) ?_
              refine al_y rfl rfl (y_assignV rfl rfl) ?_
              refine al_nil ?_
              refine qt_normal ?_
              refine ac_ret ?_
              refine qb_ret ?_
              refine qb_ret ?_
              refine qt_ret ?_
              refine qt_ret ?_
              refine qb_ret ?_
              refine qb_ret ?_
              refine qt_ret ?_
              refine qt_ret ?_
              refine qb_ret ?_
              refine qt_ret ?_
              exact ⟨.inr rfl, ⟨_, rfl, ⟨_, _, rfl, AVle.of (by rw [canB, hall]; rfl), ⟨_, _, rfl, AVle.refl _, rfl⟩⟩⟩⟩
            · skip
              have hyes : okP c ((l[q][k].toNat : Int), figA (grps m)[q] k) = true := by
                cases hh : okP c ((l[q][k].toNat : Int), figA (grps m)[q] k) with
                | true => rfl
                | false => exact absurd (howI_0.2 hh) (by simpa using h3)
              refine ac_seq ?_
              refine ac_region ?_
              refine al_y rfl rfl (y_eql rfl rfl rfl) ?_
              refine al_y rfl rfl (y_assignV rfl rfl) ?_
              refine al_nil ?_
              refine qt_normal ?_
              refine ac_cond rfl (fun h4 => ?_) (fun h4 => ?_)
              · skip
                have hr : rgt (l[q][k].toNat : Int) (figA (grps m)[q] k) = false := (howI_2 hyes).1 (by simpa using h4)
                rw [hfv, wrN, hr] at hcs
                simp only [Bool.false_eq_true, if_false] at hcs
                refine ac_region ?_
                refine al_y rfl rfl (y_moveV rfl rfl) ?_
                refine al_y rfl rfl (y_add rfl rfl rfl ⟨(by omega), (by omega)⟩) ?_
                refine al_y rfl rfl (y_assignV rfl rfl) ?_
                refine al_nil ?_
                refine qb_normal ?_
                refine qb_normal ?_
                refine qt_normal ?_
                refine ac_region ?_
                refine al_y rfl rfl (y_add rfl rfl rfl ⟨(by omega), (by omega)⟩) ?_
                refine al_y rfl rfl (y_moveV rfl rfl) ?_
                refine al_nil ?_
                exact ⟨⟨k + 1, by omega, all_take hk.2 (by omega) (by rw [hfv]; exact hyes)⟩, by dsimp only; omega, (by refine weak_frM (mem' := []) _ ?_ ?_; exact ⟨rfl, rfl, (congrArg (fun x : Int => I x) (by dsimp only; omega)), rfl, rfl, rfl, rfl, rfl, rfl, trivial⟩; exact rfl)⟩
              · skip
                have hr : rgt (l[q][k].toNat : Int) (figA (grps m)[q] k) = true := by
                  cases hh : rgt (l[q][k].toNat : Int) (figA (grps m)[q] k) with
                  | true => rfl
                  | false => exact absurd ((howI_2 hyes).2 hh) (by simpa using h4)
                rw [hfv, wrN, hr] at hcs
                simp only [if_true] at hcs
                refine ac_skip ?_
                refine qb_normal ?_
                refine qb_normal ?_
                refine qt_normal ?_
                refine ac_region ?_
                refine al_y rfl rfl (y_add rfl rfl rfl ⟨(by omega), (by omega)⟩) ?_
                refine al_y rfl rfl (y_moveV rfl rfl) ?_
                refine al_nil ?_
                exact ⟨⟨k + 1, by omega, all_take hk.2 (by omega) (by rw [hfv]; exact hyes)⟩, by dsimp only; omega, (by refine weak_frM (mem' := []) _ ?_ ?_; exact ⟨rfl, rfl, (congrArg (fun x : Int => I x) (by dsimp only; omega)), rfl, rfl, rfl, rfl, rfl, rfl, trivial⟩; exact rfl)⟩
          · skip
            have hge : 5 ≤ k := by simp at h2; omega
            have hkk : (five (grps m)[q] l[q]).take k = five (grps m)[q] l[q] := List.take_of_length_le (by omega)
            have hcs2 : cntP ((prs m l).take q) + cntW ((five (grps m)[q] l[q]).take k) = cntP ((prs m l).take (q + 1)) := by rw [cntP_step (show q < (prs m l).length by omega), hpq]; exact congrArg (fun z => cntP ((prs m l).take q) + cntW z) hkk
            refine ac_exit ?_
            refine qt_exit ?_
            refine qt_exit ?_
            refine qb_exit ?_
            refine qb_normal ?_
            refine qt_normal ?_
            refine ac_region ?_
            refine al_y rfl rfl (y_add rfl rfl rfl ⟨(by omega), (by omega)⟩) ?_
            refine al_y rfl rfl (y_moveV rfl rfl) ?_
            refine al_nil ?_
            exact ⟨⟨q + 1, by omega, all_take hq.2 (by omega) (by rw [hpq, ← hkk]; exact hk.2)⟩, by dsimp only; omega, (by refine weak_frM (mem' := []) _ ?_ ?_; exact ⟨rfl, rfl, (congrArg (fun x : Int => I x) hcs2), rfl, rfl, rfl, trivial⟩; exact rfl)⟩
      · skip
        have hge : (grps m).length ≤ q := by simpa using h1
        have hq2 := hq.2
        rw [List.take_of_length_le (by omega)] at hq2
        have hcn := cntP_bd (prs m l) hp5
        have htt : (prs m l).take q = prs m l := List.take_of_length_le (by omega)
        refine ac_exit ?_
        refine qt_exit ?_
        refine qt_exit ?_
        refine qb_exit ?_
        refine qt_normal ?_
        refine ac_seq ?_
        refine ac_region ?_
        refine al_y rfl rfl (y_moveV rfl rfl) ?_
        refine al_y rfl rfl (y_fieldAddr rfl rfl fld25_2) ?_
        refine al_y rfl rfl (y_load1 rfl rfl rfl ty3) ?_
        refine al_y rfl rfl (y_leq rfl rfl rfl) ?_
        refine al_y rfl rfl (y_assignV rfl rfl) ?_
        refine al_y rfl rfl (y_assignV rfl rfl) ?_
        refine al_nil ?_
        refine qt_normal ?_
        refine ac_ret ?_
        exact ⟨.inr rfl, ⟨_, rfl, ⟨_, _, rfl, AVle.of (by rw [canB, hq2, htt, Bool.true_and]), ⟨_, _, rfl, AVle.refl _, rfl⟩⟩⟩⟩
end Go.Av
end

section
namespace Go.Av
open Go.Proofs
set_option maxRecDepth 100000
set_option maxHeartbeats 1000000
set_option linter.unusedSimpArgs false
variable {G : Glob}

theorem f121e (c : Cod) (ch f f' : Int) (e : f' = f) (hk : codB c = true) (hch : 48 ≤ ch ∧ ch ≤ 63) (hf : 0 ≤ f ∧ f ≤ 9) : ACall Tryz.prog G 121 [.agg (eCod c), .v (.int .i64 f'), .v (.int .u8 ch)] (.tup [.v (.int .i64 (wrN (ch, f))), .v (.bool (okP c (ch, f)))]) := by
  subst e
  exact f121 c ch f' hk hch hf
theorem chs_at {g : G5} {k : Nat} (h : k < 5) : g.chs[k]? = some (chD (figA g k)) := by
  match k, h with
  | 0, _ => rfl
  | 1, _ => rfl
  | 2, _ => rfl
  | 3, _ => rfl
  | 4, _ => rfl
theorem wrN_bd (x : Int × Int) : 0 ≤ wrN x ∧ wrN x ≤ 1 := by unfold wrN; split <;> omega
def brfB (l : List (List UInt8)) : Bool := decide (l.length ≤ 12) && l.all fun w => decide (w.length ≤ 9)
theorem brf_len {l : List (List UInt8)} (h : brfB l = true) : l.length ≤ 12 := by simp [brfB] at h; exact h.1

/-- isobarref02.Can -/
theorem f68 (c : Cod) (m : List Int) (l : List (List UInt8)) (hc : c.fields.length ≤ 1000 ∧ c.turns.length ≤ 1000) (hm1 : m.length ≤ 1000) (hl1 : l.length ≤ 1000) (hkc : codB c = true) (hkm : msgB c m = true) (hkl : copB c l = true) : ACall Tryz.prog G 68 [.agg (eCod c), eInts m, eStrs l] (.v (.bool (canB c m l))) := by
  have hcp := cop_at hkl
  have hml := msg_len hkm
  have hgl : (grps m).length = m.length + 1 := by simp [grps]
  have hgs := grpsS_len m
  have hpl : (prs m l).length = (grps m).length := by simp [prs]; omega
  have h5 : ∀ w ∈ l, w.length = 5 := fun w hw => ofB_len (hcp.2 w hw)
  have hp5 := prs_len5 (m := m) h5
  refine acall_of Tryz.func68 rfl (by kernel_rfl) rfl ?_
  refine ac_seq ?_
  refine ac_region ?_
  refine al_y rfl rfl (y_box rfl (cE_agg rfl)) ?_
  refine al_y rfl rfl (y_assignV rfl rfl) ?_
  refine al_nil ?_
  refine qt_normal ?_
  refine ac_seq ?_
  refine ac_region ?_
  refine al_y rfl rfl (y_moveP rfl rfl) ?_
  refine al_y rfl rfl (y_callF (av := [_]) rfl ⟨rfl, trivial⟩ (f35 m hm1 (msg_bd' hkc hkm))) ?_
  refine al_y rfl rfl (y_assignP rfl rfl) ?_
  refine al_y rfl rfl (y_assignV rfl rfl) ?_
  refine al_nil ?_
  refine qt_normal ?_
  refine ac_seq ?_
  refine ac_seq ?_
  refine ac_region ?_
  refine al_y rfl rfl (y_assignV rfl rfl) ?_
  refine al_nil ?_
  refine qt_normal ?_
  refine ac_block ?_
  refine ac_loop (ι := { q : Nat // q ≤ (grps m).length ∧ ((prs m l).take q).all (fun xs => xs.all (okP c)) = true }) (fun q => ⟨Tryz.f68.ntmps, frL [(2, .pub (eStrs l)), (3, .pub (.ptr (eCod c))), (7, .pub (eStrs (grpsS m))), (8, I (cntP ((prs m l).take q.1))), (9, I (q.1 : Int))], []⟩) (fun q => (grps m).length - q.1) (⟨0, by simp⟩) ?_ ?_
  · exact weak_frM _ ⟨rfl, rfl, rfl, rfl, rfl, trivial⟩ (rfl)
  · rintro ⟨q, hq⟩
    dsimp only
    refine ac_seq ?_
    refine ac_seq ?_
    refine ac_region ?_
    refine al_y rfl rfl (y_moveV rfl rfl) ?_
    refine al_y rfl rfl (y_moveP rfl rfl) ?_
    refine al_y rfl rfl (y_len rfl rfl rfl Tryz.underlying34) ?_
    refine al_y rfl rfl (y_lss rfl rfl rfl) ?_
    refine al_nil ?_
    refine qt_normal ?_
    refine ac_cond rfl (fun h0 => ?_) (fun h0 => ?_)
    · skip
      have hls : q < (grpsS m).length := by simpa [eStrs] using h0
      have hlt : q < (grps m).length := by omega
      have hll : q < l.length := by omega
      have hw5 := h5 _ (List.getElem_mem hll)
      have hpq := prs_at hlt hll
      have hcn := cntP_bd ((prs m l).take q) (fun xs hx => hp5 xs (List.mem_of_mem_take hx))
      have htk : ((prs m l).take q).length ≤ q := by simp; omega
      have hf5 := five_len (g := (grps m)[q]) hw5
      have hsg : (grpsS m)[q] = ((grps m)[q]).chs := by simp [grpsS]
      refine ac_skip ?_
      refine qt_normal ?_
      refine ac_seq ?_
      refine ac_block ?_
      refine ac_seq ?_
      refine ac_region ?_
      refine al_y rfl rfl (y_assignV rfl rfl) ?_
      refine al_nil ?_
      refine qt_normal ?_
      refine ac_block ?_
      refine ac_loop (ι := { k : Nat // k ≤ 5 ∧ ((five (grps m)[q] l[q]).take k).all (okP c) = true }) (fun k => ⟨Tryz.f68.ntmps, frL [(2, .pub (eStrs l)), (3, .pub (.ptr (eCod c))), (7, .pub (eStrs (grpsS m))), (8, I (cntP ((prs m l).take q) + cntW ((five (grps m)[q] l[q]).take k.1))), (9, I (q : Int)), (10, I (k.1 : Int))], []⟩) (fun k => 5 - k.1) (⟨0, by simp⟩) ?_ ?_
      · exact weak_frM _ ⟨rfl, rfl, rfl, (congrArg (fun x : Int => I x) (by simp [cntW])), rfl, rfl, trivial⟩ (rfl)
      · rintro ⟨k, hk⟩
        dsimp only
        refine ac_seq ?_
        refine ac_seq ?_
        refine ac_region ?_
        refine al_y rfl rfl (y_moveV rfl rfl) ?_
        refine al_y rfl rfl (y_lss rfl rfl rfl) ?_
        refine al_nil ?_
        refine qt_normal ?_
        refine ac_cond rfl (fun h1 => ?_) (fun h1 => ?_)
        · skip
          have hk5 : k < 5 := by simp at h1; omega
          have hkl2 : k < l[q].length := by omega
          have hfa := figA_bd (grps_ok _ (List.getElem_mem hlt)) hk5
          have hcd := chD_nat hfa
          have hfe : ((chD (figA (grps m)[q] k)).toNat : Int) - 48 = figA (grps m)[q] k := by omega
          have hch := copR_bd (ofB_at (hcp.2 _ (List.getElem_mem hll)) hkl2)
          have hfv := five_at (g := (grps m)[q]) hw5 hk5
          have hcb := cntW_bd ((five (grps m)[q] l[q]).take k)
          have hct : ((five (grps m)[q] l[q]).take k).length ≤ 5 := by simp; omega
          have hcs := cntW_step (xs := five (grps m)[q] l[q]) (k := k) (by omega)
          rw [hfv] at hcs
          have hwb := wrN_bd ((l[q][k].toNat : Int), figA (grps m)[q] k)
          refine ac_skip ?_
          refine qt_normal ?_
          refine ac_seq ?_
          refine ac_block ?_
          refine ac_seq ?_
          refine ac_draw mixed (by kernel_rfl) rfl ?_
          refine aq_y rfl (y_loadN rfl rfl ty25 (by exact Nat.le_of_ble_eq_true rfl)) ?_
          refine aq_y rfl (y_moveP rfl rfl) ?_
          refine aq_y rfl (y_moveV rfl rfl) ?_
          refine aq_y rfl (y_indexAddr rfl rfl rfl slc34 (by omega) (str_at hls) str_len) ?_
          refine aq_y rfl (y_load1 rfl rfl rfl ty9) ?_
          refine aq_y rfl (y_moveV rfl rfl) ?_
          refine aq_y rfl (y_index_SL rfl rfl rfl Tryz.underlying9 (by omega) (by rw [Int.toNat_natCast, hsg]; exact chs_at hk5)) ?_
          refine aq_y rfl (y_subK rfl rfl rfl (wrap_u8 (by omega))) ?_
          refine aq_y rfl (y_convI rfl rfl Tryz.underlying5 Tryz.underlying3 (wrap_64 (by omega))) ?_
          refine aq_y rfl (y_moveP rfl rfl) ?_
          refine aq_y rfl (y_moveV rfl rfl) ?_
          refine aq_y rfl (y_indexAddr rfl rfl rfl slc34 (by omega) (str_at hll) str_len) ?_
          refine aq_y rfl (y_load1 rfl rfl rfl ty9) ?_
          refine aq_y rfl (y_moveV rfl rfl) ?_
          refine aq_y rfl (y_index_SL rfl rfl rfl Tryz.underlying9 (by omega) (by rw [Int.toNat_natCast]; exact List.getElem?_eq_getElem hkl2)) ?_
          refine aq_y rfl (y_callF (av := [_, _, _]) rfl ⟨rfl, rfl, rfl, trivial⟩ (f121e c (l[q][k].toNat : Int) (figA (grps m)[q] k) _ hfe hkc hch hfa)) ?_
          refine aq_y rfl (y_moveP rfl rfl) ?_
          refine aq_y rfl (y_extract rfl rfl rfl) ?_
          refine aq_y rfl (y_extract rfl rfl rfl) ?_
          refine aq_y rfl (y_assignV rfl rfl) ?_
          refine aq_y rfl (y_assignV rfl rfl) ?_
          refine aq_nil ?_
          refine qt_normal ?_
          refine ac_seq ?_
          refine ac_seq ?_
          refine ac_region ?_
          refine al_y rfl rfl (y_moveV rfl rfl) ?_
          refine al_y rfl rfl (y_not rfl rfl) ?_
          refine al_nil ?_
          refine qt_normal ?_
          refine ac_cond rfl (fun h2 => ?_) (fun h2 => ?_)
          · skip
            have hno : okP c ((l[q][k].toNat : Int), figA (grps m)[q] k) = false := by simpa using h2
            have hno2 : (five (grps m)[q] l[q]).all (okP c) = false := all_no (k := k) (by omega) (by rw [hfv]; exact hno)
            have hall : (prs m l).all (fun xs => xs.all (okP c)) = false := all_no (l := prs m l) (p := fun xs => xs.all (okP c)) (k := q) (by omega) (by rw [hpq]; exact hno2)
            refine ac_seq ?_
            refine ac_region ?_
            refine al_y rfl rfl (y_assignV rfl rfl) ?_
            refine al_nil ?_
            refine qt_normal ?_
            refine ac_ret ?_
            refine qt_ret ?_
            refine qb_ret ?_
            refine qt_ret ?_
            refine qt_ret ?_
            refine qb_ret ?_
            refine qb_ret ?_
            refine qt_ret ?_
            refine qt_ret ?_
            refine qb_ret ?_
            refine qt_ret ?_
            exact ⟨.inr rfl, AVle.of (by rw [canB, hall]; rfl)⟩
          · skip
            have hyes : okP c ((l[q][k].toNat : Int), figA (grps m)[q] k) = true := by simpa using h2
            refine ac_skip ?_
            refine qt_normal ?_
            refine ac_region ?_
            refine al_y rfl rfl (y_moveV rfl rfl) ?_
            refine al_y rfl rfl (y_moveV rfl rfl) ?_
            refine al_y rfl rfl (y_add rfl rfl rfl ⟨(by omega), (by omega)⟩) ?_
            refine al_y rfl rfl (y_assignV rfl rfl) ?_
            refine al_nil ?_
            refine qb_normal ?_
            refine qt_normal ?_
            refine ac_region ?_
            refine al_y rfl rfl (y_moveV rfl rfl) ?_
            refine al_y rfl rfl (y_add rfl rfl rfl ⟨(by omega), (by omega)⟩) ?_
            refine al_y rfl rfl (y_assignV rfl rfl) ?_
            refine al_nil ?_
            exact ⟨⟨k + 1, by omega, all_take hk.2 (by omega) (by rw [hfv]; exact hyes)⟩, by dsimp only; omega, (by refine weak_frM (mem' := []) _ ?_ ?_; exact ⟨rfl, rfl, rfl, (congrArg (fun x : Int => I x) (by dsimp only; omega)), rfl, rfl, trivial⟩; exact rfl)⟩
        · skip
          have hge : 5 ≤ k := by simp at h1; omega
          have hkk : (five (grps m)[q] l[q]).take k = five (grps m)[q] l[q] := List.take_of_length_le (by omega)
          have hcs2 : cntP ((prs m l).take q) + cntW ((five (grps m)[q] l[q]).take k) = cntP ((prs m l).take (q + 1)) := by rw [cntP_step (show q < (prs m l).length by omega), hpq]; exact congrArg (fun z => cntP ((prs m l).take q) + cntW z) hkk
          refine ac_exit ?_
          refine qt_exit ?_
          refine qt_exit ?_
          refine qb_exit ?_
          refine qb_normal ?_
          refine qt_normal ?_
          refine ac_region ?_
          refine al_y rfl rfl (y_moveV rfl rfl) ?_
          refine al_y rfl rfl (y_add rfl rfl rfl ⟨(by omega), (by omega)⟩) ?_
          refine al_y rfl rfl (y_assignV rfl rfl) ?_
          refine al_nil ?_
          exact ⟨⟨q + 1, by omega, all_take hq.2 (by omega) (by rw [hpq, ← hkk]; exact hk.2)⟩, by dsimp only; omega, (by refine weak_frM (mem' := []) _ ?_ ?_; exact ⟨rfl, rfl, rfl, (congrArg (fun x : Int => I x) hcs2), rfl, trivial⟩; exact rfl)⟩
    · skip
      have hge : (grpsS m).length ≤ q := by simpa [eStrs] using h0
      have hq2 := hq.2
      rw [List.take_of_length_le (by omega)] at hq2
      have hcn := cntP_bd (prs m l) hp5
      have htt : (prs m l).take q = prs m l := List.take_of_length_le (by omega)
      refine ac_exit ?_
      refine qt_exit ?_
      refine qt_exit ?_
      refine qb_exit ?_
      refine qt_normal ?_
      refine ac_seq ?_
      refine ac_region ?_
      refine al_y rfl rfl (y_moveV rfl rfl) ?_
      refine al_y rfl rfl (y_fieldAddr rfl rfl fld25_2) ?_
      refine al_y rfl rfl (y_load1 rfl rfl rfl ty3) ?_
      refine al_y rfl rfl (y_leq rfl rfl rfl) ?_
      refine al_y rfl rfl (y_assignV rfl rfl) ?_
      refine al_nil ?_
      refine qt_normal ?_
      refine ac_ret ?_
      exact ⟨.inr rfl, AVle.of (by rw [canB, hq2, htt, Bool.true_and])⟩

/-- isobarlaw02.brief -/
theorem f65 (l : List (List UInt8)) : ACall Tryz.prog G 65 [eStrs l] (.v (.bool (brfB l))) := by
  refine acall_of Tryz.func65 rfl (by kernel_rfl) rfl ?_
  refine ac_seq ?_
  refine ac_region ?_
  refine al_y rfl rfl (y_assignV rfl rfl) ?_
  refine al_nil ?_
  refine qt_normal ?_
  refine ac_seq ?_
  refine ac_seq ?_
  refine ac_region ?_
  refine al_y rfl rfl (y_assignV rfl rfl) ?_
  refine al_nil ?_
  refine qt_normal ?_
  refine ac_block ?_
  refine ac_loop (ι := { q : Nat // q ≤ l.length ∧ q ≤ 12 ∧ (l.take q).all (fun w => decide (w.length ≤ 9)) = true }) (fun q => ⟨Tryz.f65.ntmps, frL [(0, .pub (eStrs l)), (3, I (q.1 : Int))], []⟩) (fun q => l.length - q.1) (⟨0, by simp⟩) ?_ ?_
  · exact weak_frM _ ⟨rfl, rfl, trivial⟩ (rfl)
  · rintro ⟨q, hq⟩
    dsimp only
    refine ac_seq ?_
    refine ac_seq ?_
    refine ac_region ?_
    refine al_y rfl rfl (y_moveV rfl rfl) ?_
    refine al_y rfl rfl (y_moveP rfl rfl) ?_
    refine al_y rfl rfl (y_len rfl rfl rfl Tryz.underlying34) ?_
    refine al_y rfl rfl (y_lss rfl rfl rfl) ?_
    refine al_y rfl rfl (y_moveV rfl rfl) ?_
    refine al_maybe rfl rfl rfl (fun hg => y_moveV rfl rfl) ?_
    refine al_maybe rfl rfl rfl (fun hg => y_lss rfl (if_pos hg) rfl) ?_
    refine al_y rfl rfl (y_and rfl rfl rfl rfl) ?_
    refine al_nil ?_
    refine qt_normal ?_
    refine ac_cond rfl (fun h0 => ?_) (fun h0 => ?_)
    · skip
      have hlt : q < l.length := by simp [eStrs] at h0; omega
      have hl12 : q < 12 := by simp [eStrs] at h0; omega
      refine ac_skip ?_
      refine qt_normal ?_
      refine ac_seq ?_
      refine ac_block ?_
      refine ac_seq ?_
      refine ac_region ?_
      refine al_y rfl rfl (y_moveP rfl rfl) ?_
      refine al_y rfl rfl (y_moveV rfl rfl) ?_
      refine al_y rfl rfl (y_indexAddr rfl rfl rfl slc34 (by omega) (str_at hlt) str_len) ?_
      refine al_y rfl rfl (y_load1 rfl rfl rfl ty9) ?_
      refine al_y rfl rfl (y_len_SL rfl rfl Tryz.underlying9) ?_
      refine al_y rfl rfl (y_gtr rfl rfl rfl) ?_
      refine al_nil ?_
      refine qt_normal ?_
      refine ac_cond rfl (fun h1 => ?_) (fun h1 => ?_)
      · skip
        have hb : decide (l[q].length ≤ 9) = false := by simp at h1 ⊢; omega
        refine ac_seq ?_
        refine ac_region ?_
        refine al_y rfl rfl (y_assignV rfl rfl) ?_
        refine al_nil ?_
        refine qt_normal ?_
        refine ac_ret ?_
        refine qb_ret ?_
        refine qt_ret ?_
        refine qt_ret ?_
        refine qb_ret ?_
        refine qt_ret ?_
        exact ⟨.inr rfl, AVle.of (by rw [brfB, all_no (p := fun w : List UInt8 => decide (w.length ≤ 9)) hlt hb, Bool.and_false])⟩
      · skip
        have hb : decide (l[q].length ≤ 9) = true := by simp at h1 ⊢; omega
        refine ac_skip ?_
        refine qb_normal ?_
        refine qt_normal ?_
        refine ac_region ?_
        refine al_y rfl rfl (y_moveV rfl rfl) ?_
        refine al_y rfl rfl (y_add rfl rfl rfl ⟨(by omega), (by omega)⟩) ?_
        refine al_y rfl rfl (y_assignV rfl rfl) ?_
        refine al_nil ?_
        exact ⟨⟨q + 1, by omega, by omega, all_take hq.2.2 hlt hb⟩, by dsimp only; omega, weak_frM _ ⟨rfl, rfl, trivial⟩ (rfl)⟩
    · skip
      have hge : l.length ≤ q ∨ 12 ≤ q := by simp [eStrs] at h0; omega
      refine ac_exit ?_
      refine qt_exit ?_
      refine qt_exit ?_
      refine qb_exit ?_
      refine qt_normal ?_
      refine ac_seq ?_
      refine ac_region ?_
      refine al_y rfl rfl (y_moveP rfl rfl) ?_
      refine al_y rfl rfl (y_len rfl rfl rfl Tryz.underlying34) ?_
      refine al_y rfl rfl (y_leq rfl rfl rfl) ?_
      refine al_y rfl rfl (y_assignV rfl rfl) ?_
      refine al_nil ?_
      refine qt_normal ?_
      refine ac_ret ?_
      exact ⟨.inr rfl, AVle.of (congrArg (fun x : Bool => AV.v (Value.bool x)) (by rw [Bool.eq_iff_iff]; simp only [brfB, eStrs, List.length_map, Bool.and_eq_true, decide_eq_true_eq, List.all_eq_true]; constructor; exact fun h => ⟨by omega, fun w hw => by have h3 := hq.2.2; rw [List.take_of_length_le (by omega), List.all_eq_true] at h3; exact of_decide_eq_true (h3 w hw)⟩; exact fun h => by omega))⟩
end Go.Av
end
