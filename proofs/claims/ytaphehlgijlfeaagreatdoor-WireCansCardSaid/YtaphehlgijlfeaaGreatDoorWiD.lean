/- WireSends. -/
import Derived.Test.YtaphehlgijlfeaaGreatDoorWiC
set_option linter.unusedVariables false
set_option linter.unusedSimpArgs false
section
namespace Go.Av
open Go.Proofs
set_option maxRecDepth 100000
set_option maxHeartbeats 1000000
set_option linter.unusedSimpArgs false
variable {G : Glob}

abbrev KN (G : Glob) : Prop := ACall Tryz.prog G 23 [] (.v (.bool true))
theorem f31v (c : Cod) (hc : c.fields.length ≤ 1000 ∧ c.turns.length ≤ 1000) {b : Bool} (h : codB c = b) : ACall Tryz.prog G 31 [.agg (eCod c)] (.v (.bool b)) := h ▸ f31 c hc
theorem f32v (c : Cod) (m : List Int) (hm : m.length ≤ 1000) {b : Bool} (h : msgB c m = b) : ACall Tryz.prog G 32 [.agg (eCod c), eInts m] (.v (.bool b)) := h ▸ f32 c m hm
theorem f63t (c : Cod) (hc : c.fields.length ≤ 1000 ∧ c.turns.length ≤ 1000) (h : codB c = true) : ACall Tryz.prog G 63 [.agg (eCod c)] (ei 0) := by
  have := f63 (G := G) c hc
  rw [h] at this
  exact this
theorem f63f (c : Cod) (hc : c.fields.length ≤ 1000 ∧ c.turns.length ≤ 1000) (h : codB c = false) : ACall Tryz.prog G 63 [.agg (eCod c)] (ei 2) := by
  have := f63 (G := G) c hc
  rw [h] at this
  exact this
theorem f29t (a : List (List UInt8)) (ha : a.length ≤ 1000) : ACall Tryz.prog G 29 [eStrs a, eStrs a] (.v (.bool true)) := by
  have := f29 (G := G) a a ha
  rw [decide_eq_true rfl] at this
  exact this
def shortB (c : Cod) : Bool := decide (c.fields.length ≤ 6) && decide (c.turns.length ≤ 14)
theorem f21v (c : Cod) {b : Bool} (h : shortB c = b) : ACall Tryz.prog G 21 [.agg (eCod c)] (.v (.bool b)) := h ▸ f21 c
theorem short_len {c : Cod} (h : shortB c = true) : c.fields.length ≤ 1000 ∧ c.turns.length ≤ 1000 := by
  simp [shortB] at h; omega
/-- The readings of a message are numbers from 0 to 99999. -/
theorem msg_bd {c : Cod} {m : List Int} (h1 : codB c = true) (h2 : msgB c m = true) : ∀ n ∈ m, 0 ≤ n ∧ n ≤ 99999 := fun n hn => by
  simp only [codB, Bool.and_eq_true, Bool.not_eq_true'] at h1
  simp only [msgB, eqF, Bool.and_eq_true, decide_eq_true_eq, List.all_eq_true] at h2
  obtain ⟨k, hk, rfl⟩ := List.getElem_of_mem hn
  have hkf : k < c.fields.length := by omega
  have h3 := h2.2 (m[k], c.fields[k]) (by rw [List.mem_iff_getElem]; exact ⟨k, by simp; omega, by simp⟩)
  have h4 := h1.1.2
  rw [List.any_eq_false] at h4
  have h5 := h4 c.fields[k] (List.getElem_mem _)
  simp only [badS, Bool.or_eq_true, decide_eq_true_eq, not_or, Int.not_lt] at h5
  simp only [inB_iff] at h3
  omega
theorem msg_bd' {c : Cod} {m : List Int} (h1 : codB c = true) (h2 : msgB c m = true) : ∀ n ∈ m, 0 ≤ n ∧ n ≤ 1000000000000 := fun n hn => by have := msg_bd h1 h2 n hn; omega
theorem grpsS_len (m : List Int) : (grpsS m).length = m.length + 1 := by simp [grpsS, grps]

/-- isobarlaw02.WireSends -/
theorem f13_far (hk : KN G) (c : Cod) (m : List Int) (hs : shortB c = false) : ACall Tryz.prog G 13 [.agg (eCod c), eInts m] (.v (.bool true)) := by
  refine acall_of Tryz.func13 rfl (by kernel_rfl) rfl ?_
  refine ac_seq ?_
  refine ac_region ?_
  refine al_y rfl rfl (y_box rfl (cE_agg rfl)) ?_
  refine al_y rfl rfl (y_assignV rfl rfl) ?_
  refine al_nil ?_
  refine qt_normal ?_
  refine ac_seq ?_
  refine ac_seq ?_
  refine ac_region ?_
  refine al_y rfl rfl (y_loadN rfl rfl ty25 (by exact Nat.le_of_ble_eq_true rfl)) ?_
  refine al_y rfl rfl (y_callF (av := [_]) rfl ⟨rfl, trivial⟩ (f21v c hs)) ?_
  refine al_y rfl rfl (y_not rfl rfl) ?_
  refine al_y rfl rfl (y_moveV rfl rfl) ?_
  refine al_maybe rfl rfl rfl (fun hg => y_moveP rfl rfl) ?_
  refine al_maybe (x := .pub (.tup [])) rfl rfl rfl (fun hg => absurd hg (by decide)) ?_
  refine al_maybe (x := .pub (.tup [])) rfl rfl rfl (fun hg => absurd hg (by decide)) ?_
  refine al_y rfl rfl (y_pick rfl rfl (fun _ => rfl) (fun h => absurd h (by decide))) ?_
  refine al_nil ?_
  refine qt_normal ?_
  refine ac_cond rfl (fun h0 => ?_) (fun h0 => ?_)
  · skip
    refine ac_seq ?_
    refine ac_region ?_
    refine al_y rfl rfl (y_callF (av := []) rfl trivial hk) ?_
    refine al_y rfl rfl (y_assignV rfl rfl) ?_
    refine al_nil ?_
    refine qt_normal ?_
    refine ac_ret ?_
    refine qt_ret ?_
    exact ⟨.inr rfl, AVle.refl _⟩
  · skip
    exfalso; simp at h0

/-- isobarlaw02.WireSends -/
theorem f13_long (hk : KN G) (c : Cod) (m : List Int) (hs : shortB c = true) (hl : 6 < m.length) : ACall Tryz.prog G 13 [.agg (eCod c), eInts m] (.v (.bool true)) := by
  refine acall_of Tryz.func13 rfl (by kernel_rfl) rfl ?_
  refine ac_seq ?_
  refine ac_region ?_
  refine al_y rfl rfl (y_box rfl (cE_agg rfl)) ?_
  refine al_y rfl rfl (y_assignV rfl rfl) ?_
  refine al_nil ?_
  refine qt_normal ?_
  refine ac_seq ?_
  refine ac_seq ?_
  refine ac_region ?_
  refine al_y rfl rfl (y_loadN rfl rfl ty25 (by exact Nat.le_of_ble_eq_true rfl)) ?_
  refine al_y rfl rfl (y_callF (av := [_]) rfl ⟨rfl, trivial⟩ (f21v c hs)) ?_
  refine al_y rfl rfl (y_not rfl rfl) ?_
  refine al_y rfl rfl (y_moveV rfl rfl) ?_
  refine al_maybe rfl rfl rfl (fun hg => y_moveP rfl rfl) ?_
  refine al_maybe rfl rfl rfl (fun hg => y_len rfl rfl (rfl) Tryz.underlying23) ?_
  refine al_maybe rfl rfl rfl (fun hg => y_gtr rfl (rfl) rfl) ?_
  refine al_y rfl rfl (y_or rfl rfl rfl rfl) ?_
  refine al_nil ?_
  refine qt_normal ?_
  refine ac_cond rfl (fun h0 => ?_) (fun h0 => ?_)
  · skip
    refine ac_seq ?_
    refine ac_region ?_
    refine al_y rfl rfl (y_callF (av := []) rfl trivial hk) ?_
    refine al_y rfl rfl (y_assignV rfl rfl) ?_
    refine al_nil ?_
    refine qt_normal ?_
    refine ac_ret ?_
    refine qt_ret ?_
    exact ⟨.inr rfl, AVle.refl _⟩
  · skip
    exfalso; simp [eInts] at h0; omega

/-- isobarlaw02.WireSends -/
theorem f13_code (hk : KN G) (c : Cod) (m : List Int) (hs : shortB c = true) (hl : m.length ≤ 6) (hc : codB c = false) : ACall Tryz.prog G 13 [.agg (eCod c), eInts m] (.v (.bool true)) := by
  refine acall_of Tryz.func13 rfl (by kernel_rfl) rfl ?_
  refine ac_seq ?_
  refine ac_region ?_
  refine al_y rfl rfl (y_box rfl (cE_agg rfl)) ?_
  refine al_y rfl rfl (y_assignV rfl rfl) ?_
  refine al_nil ?_
  refine qt_normal ?_
  refine ac_seq ?_
  refine ac_seq ?_
  refine ac_region ?_
  refine al_y rfl rfl (y_loadN rfl rfl ty25 (by exact Nat.le_of_ble_eq_true rfl)) ?_
  refine al_y rfl rfl (y_callF (av := [_]) rfl ⟨rfl, trivial⟩ (f21v c hs)) ?_
  refine al_y rfl rfl (y_not rfl rfl) ?_
  refine al_y rfl rfl (y_moveV rfl rfl) ?_
  refine al_maybe rfl rfl rfl (fun hg => y_moveP rfl rfl) ?_
  refine al_maybe rfl rfl rfl (fun hg => y_len rfl rfl (rfl) Tryz.underlying23) ?_
  refine al_maybe rfl rfl rfl (fun hg => y_gtr rfl (rfl) rfl) ?_
  refine al_y rfl rfl (y_or rfl rfl rfl rfl) ?_
  refine al_nil ?_
  refine qt_normal ?_
  refine ac_cond rfl (fun h0 => ?_) (fun h0 => ?_)
  · skip
    exfalso; simp [eInts] at h0; omega
  · skip
    refine ac_skip ?_
    refine qt_normal ?_
    refine ac_seq ?_
    refine ac_region ?_
    refine al_y rfl rfl (y_loadN rfl rfl ty25 (by exact Nat.le_of_ble_eq_true rfl)) ?_
    refine al_y rfl rfl (y_callF (av := [_]) rfl ⟨rfl, trivial⟩ (f63f c (short_len hs) hc)) ?_
    refine al_y rfl rfl (y_assignV rfl rfl) ?_
    refine al_nil ?_
    refine qt_normal ?_
    refine ac_seq ?_
    refine ac_region ?_
    refine al_y rfl rfl (y_loadN rfl rfl ty25 (by exact Nat.le_of_ble_eq_true rfl)) ?_
    refine al_y rfl rfl (y_moveP rfl rfl) ?_
    refine al_y rfl rfl (y_callF (av := [_, _]) rfl ⟨rfl, rfl, trivial⟩ (f64_bad c m (short_len hs) (by omega) (by rw [hc]; rfl))) ?_
    refine al_y rfl rfl (y_moveP rfl rfl) ?_
    refine al_y rfl rfl (y_extract rfl rfl rfl) ?_
    refine al_y rfl rfl (y_extract rfl rfl rfl) ?_
    refine al_y rfl rfl (y_assignP rfl rfl) ?_
    refine al_y rfl rfl (y_assignV rfl rfl) ?_
    refine al_nil ?_
    refine qt_normal ?_
    refine ac_seq ?_
    refine ac_seq ?_
    refine ac_region ?_
    refine al_y rfl rfl (y_loadN rfl rfl ty25 (by exact Nat.le_of_ble_eq_true rfl)) ?_
    refine al_y rfl rfl (y_callF (av := [_]) rfl ⟨rfl, trivial⟩ (f31v c (short_len hs) hc)) ?_
    refine al_y rfl rfl (y_assignV rfl rfl) ?_
    refine al_nil ?_
    refine qt_normal ?_
    refine ac_seq ?_
    refine ac_region ?_
    refine al_y rfl rfl (y_moveV rfl rfl) ?_
    refine al_y rfl rfl (y_moveV rfl rfl) ?_
    refine al_maybe rfl rfl rfl (fun hg => y_moveV rfl rfl) ?_
    refine al_maybe (x := .pub (.tup [])) rfl rfl rfl (fun hg => absurd hg (by decide)) ?_
    refine al_y rfl rfl (y_pick rfl rfl (fun h => absurd h (by decide)) (fun _ => rfl)) ?_
    refine al_y rfl rfl (y_moveV rfl rfl) ?_
    refine al_maybe rfl rfl rfl (fun hg => y_moveV rfl rfl) ?_
    refine al_maybe rfl rfl rfl (fun hg => y_not rfl (rfl)) ?_
    refine al_maybe rfl rfl rfl (fun hg => y_moveV rfl (rfl)) ?_
    refine al_maybe rfl rfl rfl (fun hg => y_moveV rfl rfl) ?_
    refine al_maybe rfl rfl rfl (fun hg => y_neq rfl rfl rfl) ?_
    refine al_maybe rfl rfl rfl (fun hg => y_and rfl rfl rfl rfl) ?_
    refine al_y rfl rfl (y_or rfl rfl rfl rfl) ?_
    refine al_nil ?_
    refine qt_normal ?_
    refine ac_cond rfl (fun h1 => ?_) (fun h1 => ?_)
    · skip
      exfalso; simp at h1
    · skip
      refine ac_skip ?_
      refine qt_normal ?_
      refine ac_seq ?_
      refine ac_seq ?_
      refine ac_region ?_
      refine al_y rfl rfl (y_loadN rfl rfl ty25 (by exact Nat.le_of_ble_eq_true rfl)) ?_
      refine al_y rfl rfl (y_callF (av := [_]) rfl ⟨rfl, trivial⟩ (f31v c (short_len hs) hc)) ?_
      refine al_y rfl rfl (y_not rfl rfl) ?_
      refine al_y rfl rfl (y_moveV rfl rfl) ?_
      refine al_maybe rfl rfl rfl (fun hg => y_loadN rfl rfl ty25 (by exact Nat.le_of_ble_eq_true rfl)) ?_
      refine al_maybe rfl rfl rfl (fun hg => y_moveP rfl rfl) ?_
      refine al_maybe (x := .pub (.tup [])) rfl rfl rfl (fun hg => absurd hg (by decide)) ?_
      refine al_maybe (x := .pub (.tup [])) rfl rfl rfl (fun hg => absurd hg (by decide)) ?_
      refine al_y rfl rfl (y_pick rfl rfl (fun _ => rfl) (fun h => absurd h (by decide))) ?_
      refine al_nil ?_
      refine qt_normal ?_
      refine ac_cond rfl (fun h2 => ?_) (fun h2 => ?_)
      · skip
        refine ac_seq ?_
        refine ac_region ?_
        refine al_y rfl rfl (y_moveV rfl rfl) ?_
        refine al_y rfl rfl (y_eql rfl rfl rfl) ?_
        refine al_y rfl rfl (y_moveV rfl rfl) ?_
        refine al_maybe rfl rfl rfl (fun hg => y_moveP rfl rfl) ?_
        refine al_maybe rfl rfl rfl (fun hg => y_len rfl rfl (rfl) Tryz.underlying34) ?_
        refine al_maybe rfl rfl rfl (fun hg => y_eql rfl (rfl) rfl) ?_
        refine al_y rfl rfl (y_and rfl rfl rfl rfl) ?_
        refine al_y rfl rfl (y_moveV rfl rfl) ?_
        refine al_maybe rfl rfl rfl (fun hg => y_callF (av := []) rfl trivial hk) ?_
        refine al_y rfl rfl (y_and rfl rfl rfl rfl) ?_
        refine al_y rfl rfl (y_assignV rfl rfl) ?_
        refine al_nil ?_
        refine qt_normal ?_
        refine ac_ret ?_
        refine qt_ret ?_
        exact ⟨.inr rfl, AVle.refl _⟩
      · skip
        exfalso; simp at h2

/-- isobarlaw02.WireSends -/
theorem f13_msg (hk : KN G) (c : Cod) (m : List Int) (hs : shortB c = true) (hl : m.length ≤ 6) (hc : codB c = true) (hm : msgB c m = false) : ACall Tryz.prog G 13 [.agg (eCod c), eInts m] (.v (.bool true)) := by
  refine acall_of Tryz.func13 rfl (by kernel_rfl) rfl ?_
  refine ac_seq ?_
  refine ac_region ?_
  refine al_y rfl rfl (y_box rfl (cE_agg rfl)) ?_
  refine al_y rfl rfl (y_assignV rfl rfl) ?_
  refine al_nil ?_
  refine qt_normal ?_
  refine ac_seq ?_
  refine ac_seq ?_
  refine ac_region ?_
  refine al_y rfl rfl (y_loadN rfl rfl ty25 (by exact Nat.le_of_ble_eq_true rfl)) ?_
  refine al_y rfl rfl (y_callF (av := [_]) rfl ⟨rfl, trivial⟩ (f21v c hs)) ?_
  refine al_y rfl rfl (y_not rfl rfl) ?_
  refine al_y rfl rfl (y_moveV rfl rfl) ?_
  refine al_maybe rfl rfl rfl (fun hg => y_moveP rfl rfl) ?_
  refine al_maybe rfl rfl rfl (fun hg => y_len rfl rfl (rfl) Tryz.underlying23) ?_
  refine al_maybe rfl rfl rfl (fun hg => y_gtr rfl (rfl) rfl) ?_
  refine al_y rfl rfl (y_or rfl rfl rfl rfl) ?_
  refine al_nil ?_
  refine qt_normal ?_
  refine ac_cond rfl (fun h0 => ?_) (fun h0 => ?_)
  · skip
    exfalso; simp [eInts] at h0; omega
  · skip
    refine ac_skip ?_
    refine qt_normal ?_
    refine ac_seq ?_
    refine ac_region ?_
    refine al_y rfl rfl (y_loadN rfl rfl ty25 (by exact Nat.le_of_ble_eq_true rfl)) ?_
    refine al_y rfl rfl (y_callF (av := [_]) rfl ⟨rfl, trivial⟩ (f63t c (short_len hs) hc)) ?_
    refine al_y rfl rfl (y_assignV rfl rfl) ?_
    refine al_nil ?_
    refine qt_normal ?_
    refine ac_seq ?_
    refine ac_region ?_
    refine al_y rfl rfl (y_loadN rfl rfl ty25 (by exact Nat.le_of_ble_eq_true rfl)) ?_
    refine al_y rfl rfl (y_moveP rfl rfl) ?_
    refine al_y rfl rfl (y_callF (av := [_, _]) rfl ⟨rfl, rfl, trivial⟩ (f64_bad c m (short_len hs) (by omega) (by rw [hm]; simp))) ?_
    refine al_y rfl rfl (y_moveP rfl rfl) ?_
    refine al_y rfl rfl (y_extract rfl rfl rfl) ?_
    refine al_y rfl rfl (y_extract rfl rfl rfl) ?_
    refine al_y rfl rfl (y_assignP rfl rfl) ?_
    refine al_y rfl rfl (y_assignV rfl rfl) ?_
    refine al_nil ?_
    refine qt_normal ?_
    refine ac_seq ?_
    refine ac_seq ?_
    refine ac_region ?_
    refine al_y rfl rfl (y_loadN rfl rfl ty25 (by exact Nat.le_of_ble_eq_true rfl)) ?_
    refine al_y rfl rfl (y_callF (av := [_]) rfl ⟨rfl, trivial⟩ (f31v c (short_len hs) hc)) ?_
    refine al_y rfl rfl (y_assignV rfl rfl) ?_
    refine al_nil ?_
    refine qt_normal ?_
    refine ac_seq ?_
    refine ac_region ?_
    refine al_y rfl rfl (y_moveV rfl rfl) ?_
    refine al_y rfl rfl (y_moveV rfl rfl) ?_
    refine al_maybe rfl rfl rfl (fun hg => y_moveV rfl rfl) ?_
    refine al_maybe rfl rfl rfl (fun hg => y_neq rfl (rfl) rfl) ?_
    refine al_y rfl rfl (y_and rfl rfl rfl rfl) ?_
    refine al_y rfl rfl (y_moveV rfl rfl) ?_
    refine al_maybe rfl rfl rfl (fun hg => y_moveV rfl rfl) ?_
    refine al_maybe rfl rfl rfl (fun hg => y_not rfl (rfl)) ?_
    refine al_maybe rfl rfl rfl (fun hg => y_moveV rfl (rfl)) ?_
    refine al_maybe rfl rfl rfl (fun hg => y_moveV rfl rfl) ?_
    refine al_maybe (x := .pub (.tup [])) rfl rfl rfl (fun hg => absurd hg (by decide)) ?_
    refine al_maybe rfl rfl rfl (fun hg => y_pick rfl rfl (fun h => absurd h (by decide)) (fun _ => rfl)) ?_
    refine al_y rfl rfl (y_or rfl rfl rfl rfl) ?_
    refine al_nil ?_
    refine qt_normal ?_
    refine ac_cond rfl (fun h1 => ?_) (fun h1 => ?_)
    · skip
      exfalso; simp at h1
    · skip
      refine ac_skip ?_
      refine qt_normal ?_
      refine ac_seq ?_
      refine ac_seq ?_
      refine ac_region ?_
      refine al_y rfl rfl (y_loadN rfl rfl ty25 (by exact Nat.le_of_ble_eq_true rfl)) ?_
      refine al_y rfl rfl (y_callF (av := [_]) rfl ⟨rfl, trivial⟩ (f31v c (short_len hs) hc)) ?_
      refine al_y rfl rfl (y_not rfl rfl) ?_
      refine al_y rfl rfl (y_moveV rfl rfl) ?_
      refine al_maybe rfl rfl rfl (fun hg => y_loadN rfl rfl ty25 (by exact Nat.le_of_ble_eq_true rfl)) ?_
      refine al_maybe rfl rfl rfl (fun hg => y_moveP rfl rfl) ?_
      refine al_maybe rfl rfl rfl (fun hg => y_callF (av := [_, _]) rfl ⟨(rfl), (rfl), trivial⟩ (f32v c m (by omega) hm)) ?_
      refine al_maybe rfl rfl rfl (fun hg => y_not rfl (rfl)) ?_
      refine al_y rfl rfl (y_or rfl rfl rfl rfl) ?_
      refine al_nil ?_
      refine qt_normal ?_
      refine ac_cond rfl (fun h2 => ?_) (fun h2 => ?_)
      · skip
        refine ac_seq ?_
        refine ac_region ?_
        refine al_y rfl rfl (y_moveV rfl rfl) ?_
        refine al_y rfl rfl (y_eql rfl rfl rfl) ?_
        refine al_y rfl rfl (y_moveV rfl rfl) ?_
        refine al_maybe rfl rfl rfl (fun hg => y_moveP rfl rfl) ?_
        refine al_maybe rfl rfl rfl (fun hg => y_len rfl rfl (rfl) Tryz.underlying34) ?_
        refine al_maybe rfl rfl rfl (fun hg => y_eql rfl (rfl) rfl) ?_
        refine al_y rfl rfl (y_and rfl rfl rfl rfl) ?_
        refine al_y rfl rfl (y_moveV rfl rfl) ?_
        refine al_maybe rfl rfl rfl (fun hg => y_callF (av := []) rfl trivial hk) ?_
        refine al_y rfl rfl (y_and rfl rfl rfl rfl) ?_
        refine al_y rfl rfl (y_assignV rfl rfl) ?_
        refine al_nil ?_
        refine qt_normal ?_
        refine ac_ret ?_
        refine qt_ret ?_
        exact ⟨.inr rfl, AVle.refl _⟩
      · skip
        exfalso; simp at h2

/-- isobarlaw02.WireSends -/
theorem f13_ok (hk : KN G) (c : Cod) (m : List Int) (hs : shortB c = true) (hl : m.length ≤ 6) (hc : codB c = true) (hm : msgB c m = true) : ACall Tryz.prog G 13 [.agg (eCod c), eInts m] (.v (.bool true)) := by
  refine acall_of Tryz.func13 rfl (by kernel_rfl) rfl ?_
  refine ac_seq ?_
  refine ac_region ?_
  refine al_y rfl rfl (y_box rfl (cE_agg rfl)) ?_
  refine al_y rfl rfl (y_assignV rfl rfl) ?_
  refine al_nil ?_
  refine qt_normal ?_
  refine ac_seq ?_
  refine ac_seq ?_
  refine ac_region ?_
  refine al_y rfl rfl (y_loadN rfl rfl ty25 (by exact Nat.le_of_ble_eq_true rfl)) ?_
  refine al_y rfl rfl (y_callF (av := [_]) rfl ⟨rfl, trivial⟩ (f21v c hs)) ?_
  refine al_y rfl rfl (y_not rfl rfl) ?_
  refine al_y rfl rfl (y_moveV rfl rfl) ?_
  refine al_maybe rfl rfl rfl (fun hg => y_moveP rfl rfl) ?_
  refine al_maybe rfl rfl rfl (fun hg => y_len rfl rfl (rfl) Tryz.underlying23) ?_
  refine al_maybe rfl rfl rfl (fun hg => y_gtr rfl (rfl) rfl) ?_
  refine al_y rfl rfl (y_or rfl rfl rfl rfl) ?_
  refine al_nil ?_
  refine qt_normal ?_
  refine ac_cond rfl (fun h0 => ?_) (fun h0 => ?_)
  · skip
    exfalso; simp [eInts] at h0; omega
  · skip
    refine ac_skip ?_
    refine qt_normal ?_
    refine ac_seq ?_
    refine ac_region ?_
    refine al_y rfl rfl (y_loadN rfl rfl ty25 (by exact Nat.le_of_ble_eq_true rfl)) ?_
    refine al_y rfl rfl (y_callF (av := [_]) rfl ⟨rfl, trivial⟩ (f63t c (short_len hs) hc)) ?_
    refine al_y rfl rfl (y_assignV rfl rfl) ?_
    refine al_nil ?_
    refine qt_normal ?_
    refine ac_seq ?_
    refine ac_region ?_
    refine al_y rfl rfl (y_loadN rfl rfl ty25 (by exact Nat.le_of_ble_eq_true rfl)) ?_
    refine al_y rfl rfl (y_moveP rfl rfl) ?_
    refine al_y rfl rfl (y_callF (av := [_, _]) rfl ⟨rfl, rfl, trivial⟩ (f64_ok c m (short_len hs) (by omega) (by rw [hc, hm]; rfl) (msg_bd' hc hm))) ?_
    refine al_y rfl rfl (y_moveP rfl rfl) ?_
    refine al_y rfl rfl (y_extract rfl rfl rfl) ?_
    refine al_y rfl rfl (y_extract rfl rfl rfl) ?_
    refine al_y rfl rfl (y_assignP rfl rfl) ?_
    refine al_y rfl rfl (y_assignV rfl rfl) ?_
    refine al_nil ?_
    refine qt_normal ?_
    refine ac_seq ?_
    refine ac_seq ?_
    refine ac_region ?_
    refine al_y rfl rfl (y_loadN rfl rfl ty25 (by exact Nat.le_of_ble_eq_true rfl)) ?_
    refine al_y rfl rfl (y_callF (av := [_]) rfl ⟨rfl, trivial⟩ (f31v c (short_len hs) hc)) ?_
    refine al_y rfl rfl (y_assignV rfl rfl) ?_
    refine al_nil ?_
    refine qt_normal ?_
    refine ac_seq ?_
    refine ac_region ?_
    refine al_y rfl rfl (y_moveV rfl rfl) ?_
    refine al_y rfl rfl (y_moveV rfl rfl) ?_
    refine al_maybe rfl rfl rfl (fun hg => y_moveV rfl rfl) ?_
    refine al_maybe rfl rfl rfl (fun hg => y_neq rfl (rfl) rfl) ?_
    refine al_y rfl rfl (y_and rfl rfl rfl rfl) ?_
    refine al_y rfl rfl (y_moveV rfl rfl) ?_
    refine al_maybe rfl rfl rfl (fun hg => y_moveV rfl rfl) ?_
    refine al_maybe rfl rfl rfl (fun hg => y_not rfl (rfl)) ?_
    refine al_maybe rfl rfl rfl (fun hg => y_moveV rfl (rfl)) ?_
    refine al_maybe rfl rfl rfl (fun hg => y_moveV rfl rfl) ?_
    refine al_maybe (x := .pub (.tup [])) rfl rfl rfl (fun hg => absurd hg (by decide)) ?_
    refine al_maybe rfl rfl rfl (fun hg => y_pick rfl rfl (fun h => absurd h (by decide)) (fun _ => rfl)) ?_
    refine al_y rfl rfl (y_or rfl rfl rfl rfl) ?_
    refine al_nil ?_
    refine qt_normal ?_
    refine ac_cond rfl (fun h1 => ?_) (fun h1 => ?_)
    · skip
      exfalso; simp at h1
    · skip
      refine ac_skip ?_
      refine qt_normal ?_
      refine ac_seq ?_
      refine ac_seq ?_
      refine ac_region ?_
      refine al_y rfl rfl (y_loadN rfl rfl ty25 (by exact Nat.le_of_ble_eq_true rfl)) ?_
      refine al_y rfl rfl (y_callF (av := [_]) rfl ⟨rfl, trivial⟩ (f31v c (short_len hs) hc)) ?_
      refine al_y rfl rfl (y_not rfl rfl) ?_
      refine al_y rfl rfl (y_moveV rfl rfl) ?_
      refine al_maybe rfl rfl rfl (fun hg => y_loadN rfl rfl ty25 (by exact Nat.le_of_ble_eq_true rfl)) ?_
      refine al_maybe rfl rfl rfl (fun hg => y_moveP rfl rfl) ?_
      refine al_maybe rfl rfl rfl (fun hg => y_callF (av := [_, _]) rfl ⟨(rfl), (rfl), trivial⟩ (f32v c m (by omega) hm)) ?_
      refine al_maybe rfl rfl rfl (fun hg => y_not rfl (rfl)) ?_
      refine al_y rfl rfl (y_or rfl rfl rfl rfl) ?_
      refine al_nil ?_
      refine qt_normal ?_
      refine ac_cond rfl (fun h2 => ?_) (fun h2 => ?_)
      · skip
        exfalso; simp at h2
      · skip
        refine ac_skip ?_
        refine qt_normal ?_
        refine ac_seq ?_
        refine ac_region ?_
        refine al_y rfl rfl (y_moveV rfl rfl) ?_
        refine al_y rfl rfl (y_eql rfl rfl rfl) ?_
        refine al_y rfl rfl (y_moveV rfl rfl) ?_
        refine al_maybe rfl rfl rfl (fun hg => y_moveP rfl rfl) ?_
        refine al_maybe rfl rfl rfl (fun hg => y_moveP rfl rfl) ?_
        refine al_maybe rfl rfl rfl (fun hg => y_callF (av := [_]) rfl ⟨(rfl), trivial⟩ (f35 m (by omega) (msg_bd' hc hm))) ?_
        refine al_maybe rfl rfl rfl (fun hg => y_callF (av := [_, _]) rfl ⟨(rfl), (rfl), trivial⟩ (f29t _ (by rw [grpsS_len]; omega))) ?_
        refine al_y rfl rfl (y_and rfl rfl rfl rfl) ?_
        refine al_y rfl rfl (y_moveV rfl rfl) ?_
        refine al_maybe rfl rfl rfl (fun hg => y_callF (av := []) rfl trivial hk) ?_
        refine al_y rfl rfl (y_and rfl rfl rfl rfl) ?_
        refine al_y rfl rfl (y_assignV rfl rfl) ?_
        refine al_nil ?_
        refine qt_normal ?_
        refine ac_ret ?_
        exact ⟨.inr rfl, AVle.refl _⟩

theorem f13 (hk : KN G) (c : Cod) (m : List Int) : ACall Tryz.prog G 13 [.agg (eCod c), eInts m] (.v (.bool true)) := by
  cases hs : shortB c with
  | false => exact f13_far hk c m hs
  | true =>
    by_cases hl : m.length ≤ 6
    · cases hc : codB c with
      | false => exact f13_code hk c m hs hl hc
      | true => cases hm : msgB c m with
        | false => exact f13_msg hk c m hs hl hc hm
        | true => exact f13_ok hk c m hs hl hc hm
    · exact f13_long hk c m hs (by omega)
end Go.Av
end
