/- WireMore. -/
import Derived.Test.YtaphehlgijlfeaaGreatDoorWiO
import Derived.Test.YtaphehlgijlfeaaGreatDoorWiD
set_option linter.unusedVariables false
set_option linter.unusedSimpArgs false
section
namespace Go.Av
open Go.Proofs
set_option maxRecDepth 100000
set_option maxHeartbeats 1000000
set_option linter.unusedSimpArgs false
variable {G : Glob}
theorem ty70 : tyIs Tryz.prog 70 true 3 = true := by kernel_rfl
theorem zv25 : (Tryz.prog.info? 25).bind (·.zero) = some (.agg #[.slice none 0 0, .slice none 0 0, .int .i64 0]) := by kernel_rfl

theorem gS {a b : Bool} (h : (!(!a || !b)) = true) : a = true := by revert h; cases a <;> cases b <;> simp
theorem gF {a b : Bool} (h : (!(!a || !b)) = true) : b = true := by revert h; cases a <;> cases b <;> simp
theorem fndL_sz (c : Cod) (l : List (List (List UInt8))) : (fndL c l).length ≤ 4000000 ∧ ∀ x ∈ fndL c l, x.length ≤ 1000 := by
  unfold fndL
  by_cases h : askE c l = 0
  · rw [if_pos h]
    obtain ⟨h1, h2, h3, h4⟩ := askE_0 h
    refine ⟨?_, fun x hx => ?_⟩
    · rw [msgs, (sortL_perm _).length_eq]; exact srch_few h1 h3 h4
    · have := msg_len ((mem_msgs h1 h2 h4).1 hx).1
      have := (cod_bd h1).1
      omega
  · rw [if_neg h]; simp
theorem fndE_05 {c : Cod} {l : List (List (List UInt8))} (h : askE c l = 0) : (fndE c l != 0 && fndE c l != 5) = false := by
  unfold fndE; rw [if_pos h]; split <;> rfl
theorem ask_take1 {c : Cod} {l : List (List (List UInt8))} (h : askE c l = 0) : askE c (l.take 1) = 0 := by
  obtain ⟨h1, h2, h3, h4⟩ := askE_0 h
  exact askE_ok h1 (by simp; omega) (by simp; omega) (fun g hg => h4 g (List.mem_of_mem_take hg))
theorem allL_of {a b : List (List Int)} (h : ∀ m ∈ a, m ∈ b) : allL a b = true := by
  rw [allL, List.all_eq_true]; exact fun m hm => hasL_iff.2 (h m hm)
theorem more_take {c : Cod} {l : List (List (List UInt8))} (h : askE c l = 0) : allL (fndL c l) (fndL c (l.take 1)) = true := by
  obtain ⟨h1, h2, h3, h4⟩ := askE_0 h
  have h4' : ∀ g ∈ l.take 1, copB c g = true := fun g hg => h4 g (List.mem_of_mem_take hg)
  refine allL_of fun m hm => ?_
  rw [fndL, if_pos h, mem_msgs h1 h2 h4] at hm
  rw [fndL, if_pos (ask_take1 h), mem_msgs h1 (by simp; omega) h4']
  exact ⟨hm.1, fun g hg => hm.2 g (List.mem_of_mem_take hg)⟩
/-- The same code with another number of wrong figures. -/
def mst (c : Cod) (n : Int) : Cod := ⟨c.fields, c.turns, n⟩
theorem codB_mst {c : Cod} {n : Int} (h : codB c = true) (h0 : 0 ≤ n) (h1 : n ≤ c.most) : codB (mst c n) = true := by
  have := cod_bd h
  unfold codB at h ⊢
  simp only [Bool.and_eq_true] at h ⊢
  exact ⟨⟨⟨h.1.1.1, inB_iff.2 ⟨h0, by show n ≤ 2; omega⟩⟩, h.1.2⟩, h.2⟩
theorem canB_mst {c : Cod} {n : Int} {m : List Int} {g : List (List UInt8)} (h1 : n ≤ c.most) (h : canB (mst c n) m g = true) : canB c m g = true := by
  unfold canB at h ⊢
  simp only [Bool.and_eq_true, decide_eq_true_eq] at h ⊢
  exact ⟨h.1, Int.le_trans h.2 h1⟩
theorem ask_mst {c : Cod} {n : Int} {l : List (List (List UInt8))} (h : askE c l = 0) (h0 : 0 ≤ n) (hn : n ≤ c.most) : askE (mst c n) l = 0 := by
  obtain ⟨h1, h2, h3, h4⟩ := askE_0 h
  exact askE_ok (codB_mst h1 h0 hn) h2 h3 h4
theorem more_mst {c : Cod} {n : Int} {l : List (List (List UInt8))} (h : askE c l = 0) (h0 : 0 ≤ n) (hn : n ≤ c.most) : allL (fndL (mst c n) l) (fndL c l) = true := by
  obtain ⟨h1, h2, h3, h4⟩ := askE_0 h
  refine allL_of fun m hm => ?_
  rw [fndL, if_pos (ask_mst h h0 hn), mem_msgs (codB_mst h1 h0 hn) h2 h4] at hm
  rw [fndL, if_pos h, mem_msgs h1 h2 h4]
  exact ⟨hm.1, fun g hg => canB_mst hn (hm.2 g hg)⟩
theorem cost_one {t : Trf} {w m : Int} (ht : trfB t = true) (h : w ≤ m) : t.opn + t.more * max 0 (w - t.free) ≤ t.opn + t.more * max 0 (m - t.free) ∧ 0 ≤ t.opn + t.more * max 0 (w - t.free) := by
  simp only [trfB, Bool.and_eq_true, inB_iff] at ht
  have h1 : t.more * max 0 (w - t.free) ≤ t.more * max 0 (m - t.free) := Int.mul_le_mul_of_nonneg_left (by omega) (by omega)
  have h2 : 0 ≤ t.more * max 0 (w - t.free) := Int.mul_nonneg (by omega) (by omega)
  omega
theorem cost_words {t : Trf} {w m n : Int} (ht : trfB t = true) (h : w ≤ m) (hn : 1 ≤ n) : costI t w n ≤ costI t m n := by
  obtain ⟨h1, h2⟩ := cost_one ht h
  unfold costI
  generalize t.opn + t.more * max 0 (w - t.free) = a at *
  generalize t.opn + t.more * max 0 (m - t.free) = b at *
  have : (n - 1) * ((a + 1) / 2) ≤ (n - 1) * ((b + 1) / 2) := Int.mul_le_mul_of_nonneg_left (by omega) (by omega)
  omega
theorem cost_copies {t : Trf} {w n : Int} (ht : trfB t = true) : costI t w n ≤ costI t w (n + 1) := by
  obtain ⟨h1, h2⟩ := cost_one ht (Int.le_refl w)
  unfold costI
  generalize t.opn + t.more * max 0 (w - t.free) = a at *
  have : (n + 1 - 1) * ((a + 1) / 2) = (n - 1) * ((a + 1) / 2) + (a + 1) / 2 := by rw [show n + 1 - 1 = (n - 1) + 1 by omega, Int.add_mul]; omega
  omega
theorem cost_0 {t : Trf} {w : Int} (ht : trfB t = true) : 0 ≤ costI t w 1 := by
  obtain ⟨h1, h2⟩ := cost_one ht (Int.le_refl w)
  unfold costI
  omega
/-- What the last telegram cost. -/
def lastC (t : Trf) (w : Int) (k : Nat) : Int := if k ≤ 1 then 0 else costI t w ((k : Int) - 1)
theorem lastC_le {t : Trf} {w : Int} {k : Nat} (ht : trfB t = true) (h : 1 ≤ k) : lastC t w k ≤ costI t w (k : Int) := by
  unfold lastC
  by_cases h1 : k ≤ 1
  · have : k = 1 := by omega
    subst this
    rw [if_pos h1]; exact cost_0 ht
  · rw [if_neg h1]
    have := cost_copies (t := t) (w := w) (n := (k : Int) - 1) ht
    rwa [show (k : Int) - 1 + 1 = k by omega] at this
theorem lastC_succ {t : Trf} {w : Int} {k : Nat} (h : 1 ≤ k) : lastC t w (k + 1) = costI t w (k : Int) := by
  unfold lastC; rw [if_neg (by omega)]; congr 1; omega
theorem more_split {s f a m0 m1 t w m ww : Bool} (h : ((((((((!s || !f) || a) || m0) || m1) || !t) || !w) || !m) || ww) = false) : s = true ∧ f = true ∧ a = false ∧ m0 = false ∧ m1 = false ∧ t = true ∧ w = true ∧ m = true ∧ ww = false := by
  revert h; cases s <;> cases f <;> cases a <;> cases m0 <;> cases m1 <;> cases t <;> cases w <;> cases m <;> cases ww <;> simp
theorem more_chk {e1 e2 e3 a b : Bool} (h1 : e1 = false) (h2 : e2 = false) (h3 : e3 = false) (h4 : a = true) (h5 : b = true) : ((((e1 || e2) || e3) || !a) || !b) = false := by subst h1; subst h2; subst h3; subst h4; subst h5; rfl

/-- isobarlaw02.WireMore -/
theorem f12 (hk : KN G) (c : Cod) (l : List (List (List UInt8))) (most : Int) (t : Trf) (words more : Int) : ACall Tryz.prog G 12 [.agg (eCod c), eCps l, ei most, .agg (eTrf t), ei words, ei more] (.v (.bool true)) := by
  refine acall_of Tryz.func12 rfl (by kernel_rfl) rfl ?_
  refine ac_seq ?_
  refine ac_region ?_
  refine al_y rfl rfl (y_box rfl (cE_agg rfl)) ?_
  refine al_y rfl rfl (y_box rfl (cE_agg rfl)) ?_
  refine al_y rfl rfl (y_assignV rfl rfl) ?_
  refine al_nil ?_
  refine qt_normal ?_
  refine ac_seq ?_
  refine ac_seq ?_
  refine ac_region ?_
  refine al_y rfl rfl (y_loadN rfl rfl ty25 (by exact Nat.le_of_ble_eq_true rfl)) ?_
  refine al_y rfl rfl (y_callF (av := [_]) rfl ⟨rfl, trivial⟩ (f21v c (b := shortB c) rfl)) ?_
  refine al_y rfl rfl (y_not rfl rfl) ?_
  refine al_y rfl rfl (y_moveV rfl rfl) ?_
  refine al_maybe rfl rfl rfl (fun hg => y_moveP rfl rfl) ?_
  refine al_maybe rfl rfl rfl (fun hg => y_callF (av := [_]) rfl ⟨((if_pos hg)), trivial⟩ (f22 l)) ?_
  refine al_maybe rfl rfl rfl (fun hg => y_not rfl (if_pos hg)) ?_
  refine al_y rfl rfl (y_or rfl rfl rfl rfl) ?_
  refine al_y rfl rfl (y_moveV rfl rfl) ?_
  refine al_maybe rfl rfl rfl (fun hg => y_loadN rfl rfl ty25 (by exact Nat.le_of_ble_eq_true rfl)) ?_
  refine al_maybe rfl rfl rfl (fun hg => y_moveP rfl rfl) ?_
  refine al_maybe rfl rfl rfl (fun hg => y_callF (av := [_, _]) rfl ⟨((if_pos hg)), ((if_pos hg)), trivial⟩ (f26 c l (shortB_sz (gS hg)) (fewB_sz (gF hg)).1 (fewB_sz (gF hg)).2)) ?_
  refine al_maybe rfl rfl rfl (fun hg => y_neq rfl (if_pos hg) rfl) ?_
  refine al_y rfl rfl (y_or rfl rfl rfl rfl) ?_
  refine al_y rfl rfl (y_moveV rfl rfl) ?_
  refine al_maybe rfl rfl rfl (fun hg => y_moveV rfl rfl) ?_
  refine al_maybe rfl rfl rfl (fun hg => y_lss rfl (if_pos hg) rfl) ?_
  refine al_y rfl rfl (y_or rfl rfl rfl rfl) ?_
  refine al_y rfl rfl (y_moveV rfl rfl) ?_
  refine al_maybe rfl rfl rfl (fun hg => y_moveV rfl rfl) ?_
  refine al_maybe rfl rfl rfl (fun hg => y_fieldAddr rfl rfl fld25_2) ?_
  refine al_maybe rfl rfl rfl (fun hg => y_load1 rfl (if_pos hg) rfl ty3) ?_
  refine al_maybe rfl rfl rfl (fun hg => y_gtr rfl (if_pos hg) (if_pos hg)) ?_
  refine al_y rfl rfl (y_or rfl rfl rfl rfl) ?_
  refine al_y rfl rfl (y_moveV rfl rfl) ?_
  refine al_maybe rfl rfl rfl (fun hg => y_loadN rfl rfl ty70 (by exact Nat.le_of_ble_eq_true rfl)) ?_
  refine al_maybe rfl rfl rfl (fun hg => y_callF (av := [_]) rfl ⟨((if_pos hg)), trivial⟩ (f52 t)) ?_
  refine al_maybe rfl rfl rfl (fun hg => y_not rfl (if_pos hg)) ?_
  refine al_y rfl rfl (y_or rfl rfl rfl rfl) ?_
  refine al_y rfl rfl (y_moveV rfl rfl) ?_
  refine al_maybe rfl rfl rfl (fun hg => y_moveV rfl rfl) ?_
  refine al_maybe rfl rfl rfl (fun hg => y_callF (av := [_]) rfl ⟨((if_pos hg)), trivial⟩ (f53 _)) ?_
  refine al_maybe rfl rfl rfl (fun hg => y_not rfl (if_pos hg)) ?_
  refine al_y rfl rfl (y_or rfl rfl rfl rfl) ?_
  refine al_y rfl rfl (y_moveV rfl rfl) ?_
  refine al_maybe rfl rfl rfl (fun hg => y_moveV rfl rfl) ?_
  refine al_maybe rfl rfl rfl (fun hg => y_callF (av := [_]) rfl ⟨((if_pos hg)), trivial⟩ (f53 _)) ?_
  refine al_maybe rfl rfl rfl (fun hg => y_not rfl (if_pos hg)) ?_
  refine al_y rfl rfl (y_or rfl rfl rfl rfl) ?_
  refine al_y rfl rfl (y_moveV rfl rfl) ?_
  refine al_maybe rfl rfl rfl (fun hg => y_moveV rfl rfl) ?_
  refine al_maybe rfl rfl rfl (fun hg => y_moveV rfl rfl) ?_
  refine al_maybe rfl rfl rfl (fun hg => y_lss rfl (if_pos hg) (if_pos hg)) ?_
  refine al_y rfl rfl (y_or rfl rfl rfl rfl) ?_
  refine al_nil ?_
  refine qt_normal ?_
  refine ac_cond rfl (fun h0 => ?_) (fun h0 => ?_)
  · skip
    refine ac_seq ?_
    refine ac_region ?_
    refine al_y rfl rfl (y_callF (av := []) rfl trivial hk) ?_
    refine al_y rfl rfl (y_assignV rfl rfl) ?_
    refine al_nil ?_
    refine qt_normal ?_
    refine ac_ret ?_
    refine qt_ret ?_
    exact ⟨.inr rfl, AVle.refl _⟩
  · skip
    have H := more_split h0
    have hs := H.1
    have hf := H.2.1
    have ha : askE c l = 0 := by have := H.2.2.1; simpa using this
    have hm0 : 0 ≤ most := by have := H.2.2.2.1; simpa using this
    have hm1 : most ≤ c.most := by have := H.2.2.2.2.1; simpa using this
    have ht := H.2.2.2.2.2.1
    have hw := H.2.2.2.2.2.2.1
    have hm := H.2.2.2.2.2.2.2.1
    have hww : words ≤ more := by have := H.2.2.2.2.2.2.2.2; simpa using this
    have z1 := shortB_sz hs
    have z2 := (fewB_sz hf).1
    have z3 := (fewB_sz hf).2
    have hl0 := (askE_0 ha).2.2.1
    refine ac_skip ?_
    refine qt_normal ?_
    refine ac_seq ?_
    refine ac_region ?_
    refine al_y rfl rfl (y_loadN rfl rfl ty25 (by exact Nat.le_of_ble_eq_true rfl)) ?_
    refine al_y rfl rfl (y_moveP rfl rfl) ?_
    refine al_y rfl rfl (y_callF (av := [_, _]) rfl ⟨rfl, rfl, trivial⟩ (f24 c l z1 z2 z3)) ?_
    refine al_y rfl rfl (y_moveP rfl rfl) ?_
    refine al_y rfl rfl (y_extract rfl rfl rfl) ?_
    refine al_y rfl rfl (y_extract rfl rfl rfl) ?_
    refine al_y rfl rfl (y_assignP rfl rfl) ?_
    refine al_y rfl rfl (y_assignV rfl rfl) ?_
    refine al_nil ?_
    refine qt_normal ?_
    refine ac_seq ?_
    refine ac_draw mixed (by kernel_rfl) rfl ?_
    refine aq_y rfl (y_loadN rfl rfl ty25 (by exact Nat.le_of_ble_eq_true rfl)) ?_
    refine aq_y rfl (y_moveP rfl rfl) ?_
    refine aq_y rfl (y_slice rfl rfl rfl rfl slc26 cps_len (by omega) (by omega) (by simp; omega)) ?_
    refine aq_y rfl (y_callF (av := [.agg (eCod c), eCps (l.take 1)]) rfl ⟨rfl, congrArg (fun z => EV.pub (AV.sl z)) (by simp [List.map_take]), trivial⟩ (f24 c (l.take 1) z1 (by simp; omega) (fun g hg2 => z3 g (List.mem_of_mem_take hg2)))) ?_
    refine aq_y rfl (y_moveP rfl rfl) ?_
    refine aq_y rfl (y_extract rfl rfl rfl) ?_
    refine aq_y rfl (y_extract rfl rfl rfl) ?_
    refine aq_y rfl (y_assignP rfl rfl) ?_
    refine aq_y rfl (y_assignV rfl rfl) ?_
    refine aq_nil ?_
    refine qt_normal ?_
    refine ac_seq ?_
    refine ac_region ?_
    refine al_y rfl rfl (y_loadN rfl rfl ty25 (by exact Nat.le_of_ble_eq_true rfl)) ?_
    refine al_m rfl (m_alloc rfl rfl zv25 rfl rfl) ?_
    refine al_m rfl (m_store rfl rfl rfl rfl rfl rfl (cE_agg rfl) ty25 (by rfl) (by exact Nat.le_of_ble_eq_true rfl)) ?_
    refine al_nil ?_
    refine qt_normal ?_
    refine ac_seq ?_
    refine ac_region ?_
    refine al_y rfl rfl (y_moveV rfl rfl) ?_
    refine al_y rfl rfl (y_fieldAddr_pp rfl rfl rfl rfl fld25_2) ?_
    refine al_m rfl (m_store rfl rfl rfl rfl rfl rfl (cE_v rfl) ty3 (by rfl) (by exact Nat.le_of_ble_eq_true rfl)) ?_
    refine al_nil ?_
    refine qt_normal ?_
    refine ac_seq ?_
    refine ac_region ?_
    refine al_y rfl rfl (y_load_ppA (cs := [_, _, _]) rfl rfl rfl rfl rfl (by exact Nat.le_of_ble_eq_true rfl) rfl ty25) ?_
    refine al_y rfl rfl (y_moveP rfl rfl) ?_
    refine al_y rfl rfl (y_callF (av := [_, _]) rfl ⟨rfl, rfl, trivial⟩ (f24 (mst c most) l z1 z2 z3)) ?_
    refine al_y rfl rfl (y_moveP rfl rfl) ?_
    refine al_y rfl rfl (y_extract rfl rfl rfl) ?_
    refine al_y rfl rfl (y_extract rfl rfl rfl) ?_
    refine al_y rfl rfl (y_assignP rfl rfl) ?_
    refine al_y rfl rfl (y_assignV rfl rfl) ?_
    refine al_nil ?_
    refine qt_normal ?_
    refine ac_seq ?_
    refine ac_seq ?_
    refine ac_region ?_
    refine al_y rfl rfl (y_moveV rfl rfl) ?_
    refine al_y rfl rfl (y_neq rfl rfl rfl) ?_
    refine al_y rfl rfl (y_moveV rfl rfl) ?_
    refine al_maybe rfl rfl rfl (fun hg => y_moveV rfl rfl) ?_
    refine al_maybe rfl rfl rfl (fun hg => y_neq rfl (if_pos hg) rfl) ?_
    refine al_y rfl rfl (y_and rfl rfl rfl rfl) ?_
    refine al_y rfl rfl (y_moveV rfl rfl) ?_
    refine al_maybe rfl rfl rfl (fun hg => y_moveV rfl rfl) ?_
    refine al_maybe rfl rfl rfl (fun hg => y_neq rfl (if_pos hg) rfl) ?_
    refine al_maybe rfl rfl rfl (fun hg => y_moveV rfl (if_pos hg)) ?_
    refine al_maybe rfl (wanted_ite rfl rfl rfl) rfl (fun hg => y_moveV rfl rfl) ?_
    refine al_maybe rfl (wanted_ite rfl rfl rfl) rfl (fun hg => y_neq rfl (if_pos hg) rfl) ?_
    refine al_maybe rfl rfl rfl (fun hg => y_and rfl (if_pos hg) (ite_and hg) rfl) ?_
    refine al_y rfl rfl (y_or rfl rfl rfl rfl) ?_
    refine al_y rfl rfl (y_moveV rfl rfl) ?_
    refine al_maybe rfl rfl rfl (fun hg => y_moveV rfl rfl) ?_
    refine al_maybe rfl rfl rfl (fun hg => y_neq rfl (if_pos hg) rfl) ?_
    refine al_maybe rfl rfl rfl (fun hg => y_moveV rfl (if_pos hg)) ?_
    refine al_maybe rfl (wanted_ite rfl rfl rfl) rfl (fun hg => y_moveV rfl rfl) ?_
    refine al_maybe rfl (wanted_ite rfl rfl rfl) rfl (fun hg => y_neq rfl (if_pos hg) rfl) ?_
    refine al_maybe rfl rfl rfl (fun hg => y_and rfl (if_pos hg) (ite_and hg) rfl) ?_
    refine al_y rfl rfl (y_or rfl rfl rfl rfl) ?_
    refine al_y rfl rfl (y_moveV rfl rfl) ?_
    refine al_maybe rfl rfl rfl (fun hg => y_moveP rfl rfl) ?_
    refine al_maybe rfl rfl rfl (fun hg => y_moveP rfl rfl) ?_
    refine al_maybe rfl rfl rfl (fun hg => y_callF (av := [_, _]) rfl ⟨((if_pos hg)), ((if_pos hg)), trivial⟩ (f62 (fndL c l) (fndL c (l.take 1)) (Nat.le_trans (fndL_sz _ _).1 (by omega)) (Nat.le_trans (fndL_sz _ _).1 (by omega)) (fndL_sz _ _).2)) ?_
    refine al_maybe rfl rfl rfl (fun hg => y_not rfl (if_pos hg)) ?_
    refine al_y rfl rfl (y_or rfl rfl rfl rfl) ?_
    refine al_y rfl rfl (y_moveV rfl rfl) ?_
    refine al_maybe rfl rfl rfl (fun hg => y_moveP rfl rfl) ?_
    refine al_maybe rfl rfl rfl (fun hg => y_moveP rfl rfl) ?_
    refine al_maybe rfl rfl rfl (fun hg => y_callF (av := [_, _]) rfl ⟨((if_pos hg)), ((if_pos hg)), trivial⟩ (f62 (fndL (mst c most) l) (fndL c l) (Nat.le_trans (fndL_sz _ _).1 (by omega)) (Nat.le_trans (fndL_sz _ _).1 (by omega)) (fndL_sz _ _).2)) ?_
    refine al_maybe rfl rfl rfl (fun hg => y_not rfl (if_pos hg)) ?_
    refine al_y rfl rfl (y_or rfl rfl rfl rfl) ?_
    refine al_nil ?_
    refine qt_normal ?_
    refine ac_cond rfl (fun h1 => ?_) (fun h1 => ?_)
    · skip
      exact absurd (h1.symm.trans (more_chk (fndE_05 ha) (fndE_05 (ask_take1 ha)) (fndE_05 (ask_mst ha hm0 hm1)) (more_take ha) (more_mst ha hm0 hm1))) (by decide)
    · skip
      refine ac_skip ?_
      refine qt_normal ?_
      refine ac_seq ?_
      refine ac_region ?_
      refine al_y rfl rfl (y_assignV rfl rfl) ?_
      refine al_nil ?_
      refine qt_normal ?_
      refine ac_seq ?_
      refine ac_seq ?_
      refine ac_region ?_
      refine al_y rfl rfl (y_assignV rfl rfl) ?_
      refine al_nil ?_
      refine qt_normal ?_
      refine ac_block ?_
      refine ac_loop (ι := { k : Nat // 1 ≤ k ∧ k ≤ 4 }) (fun k => ⟨Tryz.f12.ntmps, frL [(4, I words), (5, I more), (9, .pub (.ptr (eTrf t))), (20, I (lastC t words k.1)), (21, I (k.1 : Int))], [.row [[.pub (.sl (c.fields.map eSpn)), .pub (eInts c.turns), I most]]]⟩) (fun k => 4 - k.1) (⟨1, by omega⟩) ?_ ?_
      · exact weak_frM _ ⟨rfl, rfl, rfl, rfl, rfl, trivial⟩ (rfl)
      · rintro ⟨k, hk_⟩
        dsimp only
        have hk2 := hk_
        refine ac_seq ?_
        refine ac_seq ?_
        refine ac_region ?_
        refine al_y rfl rfl (y_moveV rfl rfl) ?_
        refine al_y rfl rfl (y_leq rfl rfl rfl) ?_
        refine al_nil ?_
        refine qt_normal ?_
        refine ac_cond rfl (fun h2 => ?_) (fun h2 => ?_)
        · skip
          have hk3 : k ≤ 3 := by simp at h2; omega
          have hkb : inB (k : Int) 1 3 = true := inB_iff.2 (by omega)
          have c1 := cost_words (n := (k : Int)) ht hww (by omega)
          have c2 := lastC_le (w := words) ht hk2.1
          refine ac_skip ?_
          refine qt_normal ?_
          refine ac_seq ?_
          refine ac_block ?_
          refine ac_seq ?_
          refine ac_region ?_
          refine al_y rfl rfl (y_loadN rfl rfl ty70 (by exact Nat.le_of_ble_eq_true rfl)) ?_
          refine al_y rfl rfl (y_moveV rfl rfl) ?_
          refine al_y rfl rfl (y_moveV rfl rfl) ?_
          refine al_y rfl rfl (y_callF (av := [_, _, _]) rfl ⟨rfl, rfl, rfl, trivial⟩ (f50_ok t words (k : Int) ht hw hkb)) ?_
          refine al_y rfl rfl (y_moveP rfl rfl) ?_
          refine al_y rfl rfl (y_extract rfl rfl rfl) ?_
          refine al_y rfl rfl (y_extract rfl rfl rfl) ?_
          refine al_y rfl rfl (y_assignV rfl rfl) ?_
          refine al_y rfl rfl (y_assignV rfl rfl) ?_
          refine al_nil ?_
          refine qt_normal ?_
          refine ac_seq ?_
          refine ac_region ?_
          refine al_y rfl rfl (y_loadN rfl rfl ty70 (by exact Nat.le_of_ble_eq_true rfl)) ?_
          refine al_y rfl rfl (y_moveV rfl rfl) ?_
          refine al_y rfl rfl (y_moveV rfl rfl) ?_
          refine al_y rfl rfl (y_callF (av := [_, _, _]) rfl ⟨rfl, rfl, rfl, trivial⟩ (f50_ok t more (k : Int) ht hm hkb)) ?_
          refine al_y rfl rfl (y_moveP rfl rfl) ?_
          refine al_y rfl rfl (y_extract rfl rfl rfl) ?_
          refine al_y rfl rfl (y_extract rfl rfl rfl) ?_
          refine al_y rfl rfl (y_assignV rfl rfl) ?_
          refine al_y rfl rfl (y_assignV rfl rfl) ?_
          refine al_nil ?_
          refine qt_normal ?_
          refine ac_seq ?_
          refine ac_seq ?_
          refine ac_region ?_
          refine al_y rfl rfl (y_moveV rfl rfl) ?_
          refine al_y rfl rfl (y_neq rfl rfl rfl) ?_
          refine al_y rfl rfl (y_moveV rfl rfl) ?_
          refine al_maybe rfl rfl rfl (fun hg => y_moveV rfl rfl) ?_
          refine al_maybe rfl rfl rfl (fun hg => y_neq rfl (rfl) rfl) ?_
          refine al_y rfl rfl (y_or rfl rfl rfl rfl) ?_
          refine al_y rfl rfl (y_moveV rfl rfl) ?_
          refine al_maybe rfl rfl rfl (fun hg => y_moveV rfl rfl) ?_
          refine al_maybe rfl rfl rfl (fun hg => y_moveV rfl rfl) ?_
          refine al_maybe rfl rfl rfl (fun hg => y_lss rfl (rfl) (rfl)) ?_
          refine al_y rfl rfl (y_or rfl rfl rfl rfl) ?_
          refine al_y rfl rfl (y_moveV rfl rfl) ?_
          refine al_maybe rfl rfl rfl (fun hg => y_moveV rfl rfl) ?_
          refine al_maybe rfl rfl rfl (fun hg => y_moveV rfl rfl) ?_
          refine al_maybe rfl rfl rfl (fun hg => y_lss rfl (if_pos hg) (if_pos hg)) ?_
          refine al_y rfl rfl (y_or rfl rfl rfl rfl) ?_
          refine al_nil ?_
          refine qt_normal ?_
          refine ac_cond rfl (fun h3 => ?_) (fun h3 => ?_)
          · skip
            exfalso; simp at h3; omega
          · skip
            refine ac_skip ?_
            refine qt_normal ?_
            refine ac_region ?_
            refine al_y rfl rfl (y_moveV rfl rfl) ?_
            refine al_y rfl rfl (y_assignV rfl rfl) ?_
            refine al_nil ?_
            refine qb_normal ?_
            refine qt_normal ?_
            refine ac_region ?_
            refine al_y rfl rfl (y_moveV rfl rfl) ?_
            refine al_y rfl rfl (y_add rfl rfl rfl ⟨(by omega), (by omega)⟩) ?_
            refine al_y rfl rfl (y_assignV rfl rfl) ?_
            refine al_nil ?_
            exact ⟨⟨k + 1, by omega⟩, by dsimp only; omega, weak_frM _ ⟨rfl, rfl, rfl, (congrArg I (lastC_succ hk2.1).symm), rfl, trivial⟩ (rfl)⟩
        · skip
          refine ac_exit ?_
          refine qt_exit ?_
          refine qt_exit ?_
          refine qb_exit ?_
          refine qt_normal ?_
          refine ac_seq ?_
          refine ac_region ?_
          refine al_y rfl rfl (y_callF (av := []) rfl trivial hk) ?_
          refine al_y rfl rfl (y_assignV rfl rfl) ?_
          refine al_nil ?_
          refine qt_normal ?_
          refine ac_ret ?_
          exact ⟨.inr rfl, AVle.refl _⟩
end Go.Av
end
