/- The reference: fields. · The reference: which fields fit. -/
import Derived.Test.YtdjncbjfejdamaaGreatDoorChL
set_option linter.unusedVariables false
set_option linter.unusedSimpArgs false
section
namespace Go.Av
open Go.Proofs
set_option maxRecDepth 100000
set_option maxHeartbeats 1000000
set_option linter.unusedSimpArgs false
variable {G : Glob}

def fieldB (f : Fld) : Bool := shapeB f && valsB f
theorem valsB_at {f : Fld} {k : Nat} (hk : k < f.vals.length) (h : inB f.vals[k] 0 99999 = false) : valsB f = false := by
  unfold valsB; rw [any_atI (h := fun n => !inB n 0 99999) hk (by simp [h])]; rfl

/-- isobarref03.Field -/
theorem f28 (f : Fld) (hl : f.vals.length ≤ 1000) : ACall Tryz.prog G 28 [.agg (eFld f)] (.v (.bool (fieldB f))) := by
  refine acall_of Tryz.func28 rfl (by kernel_rfl) rfl ?_
  refine ac_seq ?_
  refine ac_region ?_
  refine al_y rfl rfl (y_box rfl (cE_agg rfl)) ?_
  refine al_y rfl rfl (y_assignV rfl rfl) ?_
  refine al_nil ?_
  refine qt_normal ?_
  refine ac_seq ?_
  refine ac_seq ?_
  refine ac_region ?_
  refine al_y rfl rfl (y_fieldAddr rfl rfl fld29_0) ?_
  refine al_y rfl rfl (y_load1 rfl rfl rfl ty3) ?_
  refine al_y rfl rfl (y_callF (av := [_, _, _]) rfl ⟨rfl, rfl, rfl, trivial⟩ (f78 _ _ _)) ?_
  refine al_y rfl rfl (y_not rfl rfl) ?_
  refine al_y rfl rfl (y_moveV rfl rfl) ?_
  refine al_maybe rfl rfl rfl (fun hg => y_fieldAddr rfl rfl fld29_1) ?_
  refine al_maybe rfl rfl rfl (fun hg => y_load1 rfl (if_pos hg) rfl ty27) ?_
  refine al_maybe rfl rfl rfl (fun hg => y_len rfl rfl (if_pos hg) Tryz.underlying27) ?_
  refine al_maybe rfl rfl rfl (fun hg => y_fieldAddr rfl rfl fld29_0) ?_
  refine al_maybe rfl rfl rfl (fun hg => y_load1 rfl (if_pos hg) rfl ty3) ?_
  refine al_maybe rfl rfl rfl (fun hg => y_rem rfl (if_pos hg) (if_pos hg) ⟨by simp, by have := inB_iff.1 (by simpa using hg : inB f.wide 1 6 = true); omega⟩) ?_
  refine al_maybe rfl rfl rfl (fun hg => y_neq rfl (if_pos hg) rfl) ?_
  refine al_y rfl rfl (y_or rfl rfl rfl rfl) ?_
  refine al_y rfl rfl (y_moveV rfl rfl) ?_
  refine al_maybe rfl rfl rfl (fun hg => y_fieldAddr rfl rfl fld29_1) ?_
  refine al_maybe rfl rfl rfl (fun hg => y_load1 rfl (if_pos hg) rfl ty27) ?_
  refine al_maybe rfl rfl rfl (fun hg => y_len rfl rfl (if_pos hg) Tryz.underlying27) ?_
  refine al_maybe rfl rfl rfl (fun hg => y_fieldAddr rfl rfl fld29_0) ?_
  refine al_maybe rfl rfl rfl (fun hg => y_load1 rfl (if_pos hg) rfl ty3) ?_
  refine al_maybe rfl rfl rfl (fun hg => y_quo rfl (if_pos hg) (if_pos hg) ⟨by simp, by simp; omega, by simp at hg; have := inB_iff.1 hg.1; omega⟩) ?_
  refine al_maybe rfl rfl rfl (fun hg => y_callF (av := [_, _, _]) rfl ⟨((if_pos hg)), rfl, rfl, trivial⟩ (f78 _ _ _)) ?_
  refine al_maybe rfl rfl rfl (fun hg => y_not rfl (if_pos hg)) ?_
  refine al_y rfl rfl (y_or rfl rfl rfl rfl) ?_
  refine al_nil ?_
  refine qt_normal ?_
  refine ac_cond rfl (fun h0 => ?_) (fun h0 => ?_)
  · skip
    have hsh : shapeB f = false := by unfold shapeB; simp at h0 ⊢; intro q1 q2; cases hq : inB ((f.vals.length : Int) / f.wide) 1 5; rfl; exfalso; simp [q1, q2, hq] at h0
    refine ac_seq ?_
    refine ac_region ?_
    refine al_y rfl rfl (y_assignV rfl rfl) ?_
    refine al_nil ?_
    refine qt_normal ?_
    refine ac_ret ?_
    refine qt_ret ?_
    exact ⟨.inr rfl, AVle.of (by simp [fieldB, hsh])⟩
  · skip
    have hsh : shapeB f = true := by unfold shapeB; simp at h0 ⊢; exact ⟨h0.1.1, h0.1.2, h0.2⟩
    refine ac_skip ?_
    refine qt_normal ?_
    refine ac_seq ?_
    refine ac_seq ?_
    refine ac_region ?_
    refine al_y rfl rfl (y_assignV rfl rfl) ?_
    refine al_nil ?_
    refine qt_normal ?_
    refine ac_block ?_
    refine ac_loop (ι := { k : Nat // k ≤ f.vals.length ∧ (f.vals.take k).any (fun n => !inB n 0 99999) = false }) (fun k => ⟨Tryz.f28.ntmps, frL [(1, .pub (.ptr (eFld f))), (3, I (k.1 : Int))], []⟩) (fun k => f.vals.length - k.1) (⟨0, by simp⟩) ?_ ?_
    · exact weak_frM _ ⟨rfl, rfl, trivial⟩ (rfl)
    · rintro ⟨k, hk⟩
      dsimp only
      refine ac_seq ?_
      refine ac_seq ?_
      refine ac_region ?_
      refine al_y rfl rfl (y_moveV rfl rfl) ?_
      refine al_y rfl rfl (y_fieldAddr rfl rfl fld29_1) ?_
      refine al_y rfl rfl (y_load1 rfl rfl rfl ty27) ?_
      refine al_y rfl rfl (y_len rfl rfl rfl Tryz.underlying27) ?_
      refine al_y rfl rfl (y_lss rfl rfl rfl) ?_
      refine al_nil ?_
      refine qt_normal ?_
      refine ac_cond rfl (fun h1 => ?_) (fun h1 => ?_)
      · skip
        have hlt : k < f.vals.length := by simpa using h1
        refine ac_skip ?_
        refine qt_normal ?_
        refine ac_seq ?_
        refine ac_block ?_
        refine ac_seq ?_
        refine ac_region ?_
        refine al_y rfl rfl (y_fieldAddr rfl rfl fld29_1) ?_
        refine al_y rfl rfl (y_load1 rfl rfl rfl ty27) ?_
        refine al_y rfl rfl (y_moveV rfl rfl) ?_
        refine al_y rfl rfl (y_indexAddr rfl rfl rfl slc27 (by omega) (int_at hlt) int_len) ?_
        refine al_y rfl rfl (y_load1 rfl rfl rfl ty3) ?_
        refine al_y rfl rfl (y_callF (av := [_]) rfl ⟨rfl, trivial⟩ (f79 _)) ?_
        refine al_y rfl rfl (y_not rfl rfl) ?_
        refine al_nil ?_
        refine qt_normal ?_
        refine ac_cond rfl (fun h2 => ?_) (fun h2 => ?_)
        · skip
          have hno : inB f.vals[k] 0 99999 = false := by simpa using h2
          refine ac_seq ?_
          refine ac_region ?_
          refine al_y rfl rfl (y_assignV rfl rfl) ?_
          refine al_nil ?_
          refine qt_normal ?_
          refine ac_ret ?_
          refine qb_ret ?_
          refine qt_ret ?_
          refine qt_ret ?_
          refine qb_ret ?_
          refine qt_ret ?_
          exact ⟨.inr rfl, AVle.of (by simp [fieldB, valsB_at hlt hno])⟩
        · skip
          have hyes : inB f.vals[k] 0 99999 = true := by simpa using h2
          refine ac_skip ?_
          refine qb_normal ?_
          refine qt_normal ?_
          refine ac_region ?_
          refine al_y rfl rfl (y_moveV rfl rfl) ?_
          refine al_y rfl rfl (y_add rfl rfl rfl ⟨(by omega), (by omega)⟩) ?_
          refine al_y rfl rfl (y_assignV rfl rfl) ?_
          refine al_nil ?_
          exact ⟨⟨k + 1, by omega, any_takeI hk.2 hlt (by simp [hyes])⟩, by dsimp only; omega, weak_frM _ ⟨rfl, rfl, trivial⟩ (rfl)⟩
      · skip
        have hge : f.vals.length ≤ k := by simpa using h1
        refine ac_exit ?_
        refine qt_exit ?_
        refine qt_exit ?_
        refine qb_exit ?_
        refine qt_normal ?_
        refine ac_seq ?_
        refine ac_region ?_
        refine al_y rfl rfl (y_assignV rfl rfl) ?_
        refine al_nil ?_
        refine qt_normal ?_
        refine ac_ret ?_
        exact ⟨.inr rfl, AVle.of (by have h := hk.2; rw [List.take_of_length_le hge] at h; simp only [fieldB, hsh, valsB, h]; rfl)⟩
end Go.Av
end

section
namespace Go.Av
open Go.Proofs
set_option maxRecDepth 100000
set_option maxHeartbeats 1000000
set_option linter.unusedSimpArgs false
variable {G : Glob}

def nearB (m : Mp) (f : Fld) (i j : Nat) : Bool := (dist f.wide (i : Int) (j : Int) == 1) && decide (m.slope < absd (f.vals.getD i 0) (f.vals.getD j 0))
def pairsB (m : Mp) (f : Fld) : Bool := (List.range f.vals.length).all fun i => (List.range i).all fun j => !nearB m f i j
def stnsB (m : Mp) (f : Fld) : Bool := m.st.all fun s => inB (f.vals.getD s.pt.toNat 0) s.lo s.hi
def sizeB (m : Mp) (f : Fld) : Bool := (f.wide == m.wide) && ((f.vals.length : Int) == m.wide * m.rows)
def fitsB (m : Mp) (f : Fld) : Bool := sizeB m f && (pairsB m f && stnsB m f)
theorem fld_bd {f : Fld} (h : fieldB f = true) : 1 ≤ f.wide ∧ f.wide ≤ 6 ∧ ∀ n ∈ f.vals, 0 ≤ n ∧ n ≤ 99999 := by
  unfold fieldB shapeB valsB at h
  simp only [Bool.and_eq_true, Bool.not_eq_true', List.any_eq_false] at h
  obtain ⟨⟨h1, _⟩, h2⟩ := h
  have hw := inB_iff.1 h1
  exact ⟨hw.1, hw.2, fun n hn => inB_iff.1 (by have := h2 n hn; simpa using this)⟩
theorem getD_at {l : List Int} {k : Nat} (h : k < l.length) : l.getD k 0 = l[k] := by simp [List.getD, h]
theorem near_at {m : Mp} {f : Fld} {i j : Nat} (hi : i < f.vals.length) (hj : j < f.vals.length) : nearB m f i j = ((dist f.wide (i : Int) (j : Int) == 1) && decide (m.slope < absd f.vals[i] f.vals[j])) := by
  unfold nearB; rw [getD_at hi, getD_at hj]
theorem pairs_no {m : Mp} {f : Fld} {i j : Nat} (hi : i < f.vals.length) (hj : j < i) (h : nearB m f i j = true) : pairsB m f = false := by
  unfold pairsB
  rw [List.all_eq_false]
  exact ⟨i, List.mem_range.2 hi, by simp only [Bool.not_eq_true, List.all_eq_false]; exact ⟨j, List.mem_range.2 hj, by simp [h]⟩⟩
theorem pairs_yes {m : Mp} {f : Fld} (h : ∀ i < f.vals.length, ∀ j < i, nearB m f i j = false) : pairsB m f = true := by
  unfold pairsB
  rw [List.all_eq_true]
  intro i hi
  rw [List.all_eq_true]
  intro j hj
  rw [h i (List.mem_range.1 hi) j (List.mem_range.1 hj)]; rfl
theorem stns_no {m : Mp} {f : Fld} {k : Nat} (hk : k < m.st.length) (h : inB (f.vals.getD m.st[k].pt.toNat 0) m.st[k].lo m.st[k].hi = false) : stnsB m f = false := by
  unfold stnsB
  rw [List.all_eq_false]
  exact ⟨_, List.getElem_mem hk, by rw [h]; exact Bool.false_ne_true⟩

/-- isobarref03.Fits -/
theorem f45 (m : Mp) (f : Fld) (hm : okM m) (hf : fieldB f = true) (hl : f.vals.length ≤ 1000) : ACall Tryz.prog G 45 [.agg (eMp m), .agg (eFld f)] (.v (.bool (fitsB m f))) := by
  obtain ⟨b1, b2, b3⟩ := fld_bd hf
  have ho := hm
  obtain ⟨m1, m2, m3, m4, m5, m6, m7, m8⟩ := ho
  have har := area m1 m2 m3 m4
  refine acall_of Tryz.func45 rfl (by kernel_rfl) rfl ?_
  refine ac_seq ?_
  refine ac_region ?_
  refine al_y rfl rfl (y_box rfl (cE_agg rfl)) ?_
  refine al_y rfl rfl (y_box rfl (cE_agg rfl)) ?_
  refine al_y rfl rfl (y_assignV rfl rfl) ?_
  refine al_nil ?_
  refine qt_normal ?_
  refine ac_seq ?_
  refine ac_seq ?_
  refine ac_region ?_
  refine al_y rfl rfl (y_fieldAddr rfl rfl fld29_0) ?_
  refine al_y rfl rfl (y_load1 rfl rfl rfl ty3) ?_
  refine al_y rfl rfl (y_fieldAddr rfl rfl fld24_0) ?_
  refine al_y rfl rfl (y_load1 rfl rfl rfl ty3) ?_
  refine al_y rfl rfl (y_neq rfl rfl rfl) ?_
  refine al_y rfl rfl (y_moveV rfl rfl) ?_
  refine al_maybe rfl rfl rfl (fun hg => y_fieldAddr rfl rfl fld29_1) ?_
  refine al_maybe rfl rfl rfl (fun hg => y_load1 rfl (if_pos hg) rfl ty27) ?_
  refine al_maybe rfl rfl rfl (fun hg => y_len rfl rfl (if_pos hg) Tryz.underlying27) ?_
  refine al_maybe rfl rfl rfl (fun hg => y_fieldAddr rfl rfl fld24_0) ?_
  refine al_maybe rfl rfl rfl (fun hg => y_load1 rfl (if_pos hg) rfl ty3) ?_
  refine al_maybe rfl rfl rfl (fun hg => y_fieldAddr rfl rfl fld24_1) ?_
  refine al_maybe rfl rfl rfl (fun hg => y_load1 rfl (if_pos hg) rfl ty3) ?_
  refine al_maybe rfl rfl rfl (fun hg => y_mul rfl (if_pos hg) (if_pos hg) ⟨(by first | omega | (simp at hg; omega)), (by first | omega | (simp at hg; omega))⟩) ?_
  refine al_maybe rfl rfl rfl (fun hg => y_neq rfl (if_pos hg) (if_pos hg)) ?_
  refine al_y rfl rfl (y_or rfl rfl rfl rfl) ?_
  refine al_nil ?_
  refine qt_normal ?_
  refine ac_cond rfl (fun h0 => ?_) (fun h0 => ?_)
  · skip
    have hsz : sizeB m f = false := by unfold sizeB; revert h0; cases hq : (f.wide == m.wide) <;> simp_all
    refine ac_seq ?_
    refine ac_region ?_
    refine al_y rfl rfl (y_assignV rfl rfl) ?_
    refine al_nil ?_
    refine qt_normal ?_
    refine ac_ret ?_
    refine qt_ret ?_
    exact ⟨.inr rfl, AVle.of (by simp [fitsB, hsz])⟩
  · skip
    have hsz : sizeB m f = true := by unfold sizeB; revert h0; cases hq : (f.wide == m.wide) <;> simp_all
    have hsz2 : (f.vals.length : Int) = m.wide * m.rows := by unfold sizeB at hsz; simp only [Bool.and_eq_true, beq_iff_eq] at hsz; exact hsz.2
    refine ac_skip ?_
    refine qt_normal ?_
    refine ac_seq ?_
    refine ac_seq ?_
    refine ac_region ?_
    refine al_y rfl rfl (y_assignV rfl rfl) ?_
    refine al_nil ?_
    refine qt_normal ?_
    refine ac_block ?_
    refine ac_loop (ι := { k : Nat // k ≤ f.vals.length ∧ ∀ i < k, ∀ j < i, nearB m f i j = false }) (fun k => ⟨Tryz.f45.ntmps, frL [(2, .pub (.ptr (eMp m))), (3, .pub (.ptr (eFld f))), (5, I (k.1 : Int))], []⟩) (fun k => f.vals.length - k.1) (⟨0, by omega, fun i hi => absurd hi (by omega)⟩) ?_ ?_
    · exact weak_frM _ ⟨rfl, rfl, rfl, trivial⟩ (rfl)
    · rintro ⟨k, hk⟩
      dsimp only
      refine ac_seq ?_
      refine ac_seq ?_
      refine ac_region ?_
      refine al_y rfl rfl (y_moveV rfl rfl) ?_
      refine al_y rfl rfl (y_fieldAddr rfl rfl fld29_1) ?_
      refine al_y rfl rfl (y_load1 rfl rfl rfl ty27) ?_
      refine al_y rfl rfl (y_len rfl rfl rfl Tryz.underlying27) ?_
      refine al_y rfl rfl (y_lss rfl rfl rfl) ?_
      refine al_nil ?_
      refine qt_normal ?_
      refine ac_cond rfl (fun h1 => ?_) (fun h1 => ?_)
      · skip
        have hlt : k < f.vals.length := by simpa using h1
        refine ac_skip ?_
        refine qt_normal ?_
        refine ac_seq ?_
        refine ac_block ?_
        refine ac_seq ?_
        refine ac_region ?_
        refine al_y rfl rfl (y_assignV rfl rfl) ?_
        refine al_nil ?_
        refine qt_normal ?_
        refine ac_block ?_
        refine ac_loop (ι := { j : Nat // j ≤ k ∧ ∀ x < j, nearB m f k x = false }) (fun j => ⟨Tryz.f45.ntmps, frL [(2, .pub (.ptr (eMp m))), (3, .pub (.ptr (eFld f))), (5, I (k : Int)), (6, I (j.1 : Int))], []⟩) (fun j => k - j.1) (⟨0, by omega, fun x hx => absurd hx (by omega)⟩) ?_ ?_
        · exact weak_frM _ ⟨rfl, rfl, rfl, rfl, trivial⟩ (rfl)
        · rintro ⟨j, hj⟩
          dsimp only
          refine ac_seq ?_
          refine ac_seq ?_
          refine ac_region ?_
          refine al_y rfl rfl (y_moveV rfl rfl) ?_
          refine al_y rfl rfl (y_moveV rfl rfl) ?_
          refine al_y rfl rfl (y_lss rfl rfl rfl) ?_
          refine al_nil ?_
          refine qt_normal ?_
          refine ac_cond rfl (fun h2 => ?_) (fun h2 => ?_)
          · skip
            have hjt : j < k := by simpa using h2
            have hjl : j < f.vals.length := by omega
            have v1 := b3 _ (List.getElem_mem hlt)
            have v2 := b3 _ (List.getElem_mem hjl)
            refine ac_skip ?_
            refine qt_normal ?_
            refine ac_seq ?_
            refine ac_block ?_
            refine ac_seq ?_
            refine ac_draw mixed (by kernel_rfl) rfl ?_
            refine aq_y rfl (y_fieldAddr rfl rfl fld29_0) ?_
            refine aq_y rfl (y_load1 rfl rfl rfl ty3) ?_
            refine aq_y rfl (y_moveV rfl rfl) ?_
            refine aq_y rfl (y_moveV rfl rfl) ?_
            refine aq_y rfl (y_callF (av := [_, _, _]) rfl ⟨rfl, rfl, rfl, trivial⟩ (f35 _ _ _ (by omega) (by omega) (by omega))) ?_
            refine aq_y rfl (y_moveV rfl rfl) ?_
            refine aq_maybe rfl (fun hg => y_fieldAddr rfl rfl fld29_1) ?_
            refine aq_maybe rfl (fun hg => y_load1 rfl (if_pos hg) rfl ty27) ?_
            refine aq_maybe rfl (fun hg => y_moveV rfl rfl) ?_
            refine aq_maybe rfl (fun hg => y_indexAddr rfl (if_pos hg) (if_pos hg) slc27 (by omega) (int_at hlt) int_len) ?_
            refine aq_maybe rfl (fun hg => y_load1 rfl (if_pos hg) rfl ty3) ?_
            refine aq_maybe rfl (fun hg => y_fieldAddr rfl rfl fld29_1) ?_
            refine aq_maybe rfl (fun hg => y_load1 rfl (if_pos hg) rfl ty27) ?_
            refine aq_maybe rfl (fun hg => y_moveV rfl rfl) ?_
            refine aq_maybe rfl (fun hg => y_indexAddr rfl (if_pos hg) (if_pos hg) slc27 (by omega) (int_at hjl) int_len) ?_
            refine aq_maybe rfl (fun hg => y_load1 rfl (if_pos hg) rfl ty3) ?_
            refine aq_maybe rfl (fun hg => y_callF (av := [_, _]) rfl ⟨((if_pos hg)), ((if_pos hg)), trivial⟩ (f95 _ _ (by omega) (by omega))) ?_
            refine aq_maybe rfl (fun hg => y_fieldAddr rfl rfl fld24_2) ?_
            refine aq_maybe rfl (fun hg => y_load1 rfl (if_pos hg) rfl ty3) ?_
            refine aq_maybe rfl (fun hg => y_gtr rfl (if_pos hg) (if_pos hg)) ?_
            refine aq_y rfl (y_and rfl rfl rfl rfl) ?_
            refine aq_nil ?_
            refine qt_normal ?_
            refine ac_cond rfl (fun h3 => ?_) (fun h3 => ?_)
            · skip
              have hyes : nearB m f k j = true := by rw [near_at hlt hjl]; revert h3; cases hq : (dist f.wide (k : Int) (j : Int) == 1) <;> simp
              refine ac_seq ?_
              refine ac_region ?_
              refine al_y rfl rfl (y_assignV rfl rfl) ?_
              refine al_nil ?_
              refine qt_normal ?_
              refine ac_ret ?_
              refine qb_ret ?_
              refine qt_ret ?_
              refine qt_ret ?_
              refine qb_ret ?_
              refine qb_ret ?_
              refine qt_ret ?_
              refine qt_ret ?_
              refine qb_ret ?_
              refine qt_ret ?_
              exact ⟨.inr rfl, AVle.of (by simp [fitsB, pairs_no hlt hjt hyes])⟩
            · skip
              have hno : nearB m f k j = false := by rw [near_at hlt hjl]; revert h3; cases hq : (dist f.wide (k : Int) (j : Int) == 1) <;> simp
              refine ac_skip ?_
              refine qb_normal ?_
              refine qt_normal ?_
              refine ac_region ?_
              refine al_y rfl rfl (y_moveV rfl rfl) ?_
              refine al_y rfl rfl (y_add rfl rfl rfl ⟨(by omega), (by omega)⟩) ?_
              refine al_y rfl rfl (y_assignV rfl rfl) ?_
              refine al_nil ?_
              exact ⟨⟨j + 1, by omega, fun x hx => by
                              by_cases e : x = j
                              · subst e; exact hno
                              · exact hj.2 x (by omega)⟩, by dsimp only; omega, weak_frM _ ⟨rfl, rfl, rfl, rfl, trivial⟩ (rfl)⟩
          · skip
            have hjge : k ≤ j := by simpa using h2
            refine ac_exit ?_
            refine qt_exit ?_
            refine qt_exit ?_
            refine qb_exit ?_
            refine qb_normal ?_
            refine qt_normal ?_
            refine ac_region ?_
            refine al_y rfl rfl (y_moveV rfl rfl) ?_
            refine al_y rfl rfl (y_add rfl rfl rfl ⟨(by omega), (by omega)⟩) ?_
            refine al_y rfl rfl (y_assignV rfl rfl) ?_
            refine al_nil ?_
            exact ⟨⟨k + 1, by omega, fun i hi x hx => by
                              by_cases e : i = k
                              · subst e; exact hj.2 x (by omega)
                              · exact hk.2 i (by omega) x hx⟩, by dsimp only; omega, weak_frM _ ⟨rfl, rfl, rfl, trivial⟩ (rfl)⟩
      · skip
        have hge : f.vals.length ≤ k := by simpa using h1
        have hpy : pairsB m f = true := pairs_yes fun i hi j hj => hk.2 i (by omega) j hj
        refine ac_exit ?_
        refine qt_exit ?_
        refine qt_exit ?_
        refine qb_exit ?_
        refine qt_normal ?_
        refine ac_seq ?_
        refine ac_seq ?_
        refine ac_region ?_
        refine al_y rfl rfl (y_assignV rfl rfl) ?_
        refine al_nil ?_
        refine qt_normal ?_
        refine ac_block ?_
        refine ac_loop (ι := { k : Nat // k ≤ m.st.length ∧ ∀ i (h : i < m.st.length), i < k → inB (f.vals.getD m.st[i].pt.toNat 0) m.st[i].lo m.st[i].hi = true }) (fun k => ⟨Tryz.f45.ntmps, frL [(2, .pub (.ptr (eMp m))), (3, .pub (.ptr (eFld f))), (7, I (k.1 : Int))], []⟩) (fun k => m.st.length - k.1) (⟨0, by omega, fun i _ hi => absurd hi (by omega)⟩) ?_ ?_
        · exact weak_frM _ ⟨rfl, rfl, rfl, trivial⟩ (rfl)
        · rintro ⟨k, hk⟩
          dsimp only
          refine ac_seq ?_
          refine ac_seq ?_
          refine ac_region ?_
          refine al_y rfl rfl (y_moveV rfl rfl) ?_
          refine al_y rfl rfl (y_fieldAddr rfl rfl fld24_3) ?_
          refine al_y rfl rfl (y_load1 rfl rfl rfl ty22) ?_
          refine al_y rfl rfl (y_len rfl rfl rfl Tryz.underlying22) ?_
          refine al_y rfl rfl (y_lss rfl rfl rfl) ?_
          refine al_nil ?_
          refine qt_normal ?_
          refine ac_cond rfl (fun h4 => ?_) (fun h4 => ?_)
          · skip
            have hlt : k < m.st.length := by simpa using h4
            have hst := m8 _ (List.getElem_mem hlt)
            have hpt : m.st[k].pt.toNat < f.vals.length := by omega
            refine ac_skip ?_
            refine qt_normal ?_
            refine ac_seq ?_
            refine ac_block ?_
            refine ac_seq ?_
            refine ac_region ?_
            refine al_y rfl rfl (y_fieldAddr rfl rfl fld24_3) ?_
            refine al_y rfl rfl (y_load1 rfl rfl rfl ty22) ?_
            refine al_y rfl rfl (y_moveV rfl rfl) ?_
            refine al_y rfl rfl (y_indexAddr rfl rfl rfl slc22 (by omega) (row_at hlt) stn_len) ?_
            refine al_y rfl rfl (y_loadN rfl rfl ty78 (by exact Nat.le_of_ble_eq_true rfl)) ?_
            refine al_pair  rfl rfl rfl rfl rfl rfl rfl zv78 ty78 rfl (by rfl) (cE_agg rfl) rfl ?_
            refine al_nil ?_
            refine qt_normal ?_
            refine ac_seq ?_
            refine ac_draw mixed (by kernel_rfl) rfl ?_
            refine aq_y rfl (y_fieldAddr rfl rfl fld29_1) ?_
            refine aq_y rfl (y_load1 rfl rfl rfl ty27) ?_
            refine aq_y rfl (y_fieldAddr rfl rfl fld78_0) ?_
            refine aq_y rfl (y_load1 rfl rfl rfl ty3) ?_
            refine aq_y rfl (y_indexAddr rfl rfl rfl slc27 (by omega) (by simp [hpt]; rfl) int_len) ?_
            refine aq_y rfl (y_load1 rfl rfl rfl ty3) ?_
            refine aq_y rfl (y_fieldAddr rfl rfl fld78_1) ?_
            refine aq_y rfl (y_fieldAddr rfl rfl fld76_0) ?_
            refine aq_y rfl (y_load1 rfl rfl rfl ty3) ?_
            refine aq_y rfl (y_fieldAddr rfl rfl fld78_1) ?_
            refine aq_y rfl (y_fieldAddr rfl rfl fld76_1) ?_
            refine aq_y rfl (y_load1 rfl rfl rfl ty3) ?_
            refine aq_y rfl (y_callF (av := [_, _, _]) rfl ⟨rfl, rfl, rfl, trivial⟩ (f78 _ _ _)) ?_
            refine aq_y rfl (y_not rfl rfl) ?_
            refine aq_nil ?_
            refine qt_normal ?_
            refine ac_cond rfl (fun h5 => ?_) (fun h5 => ?_)
            · skip
              have hno : inB (f.vals.getD m.st[k].pt.toNat 0) m.st[k].lo m.st[k].hi = false := by rw [getD_at hpt]; simpa using h5
              refine ac_seq ?_
              refine ac_region ?_
              refine al_y rfl rfl (y_assignV rfl rfl) ?_
              refine al_nil ?_
              refine qt_normal ?_
              refine ac_ret ?_
              refine qb_ret ?_
              refine qt_ret ?_
              refine qt_ret ?_
              refine qb_ret ?_
              refine qt_ret ?_
              exact ⟨.inr rfl, AVle.of (by simp [fitsB, stns_no hlt hno])⟩
            · skip
              have hyes : inB (f.vals.getD m.st[k].pt.toNat 0) m.st[k].lo m.st[k].hi = true := by rw [getD_at hpt]; simpa using h5
              refine ac_skip ?_
              refine qb_normal ?_
              refine qt_normal ?_
              refine ac_region ?_
              refine al_y rfl rfl (y_moveV rfl rfl) ?_
              refine al_y rfl rfl (y_add rfl rfl rfl ⟨(by omega), (by omega)⟩) ?_
              refine al_y rfl rfl (y_assignV rfl rfl) ?_
              refine al_nil ?_
              exact ⟨⟨k + 1, by omega, fun i h hi => by
                              by_cases e : i = k
                              · subst e; exact hyes
                              · exact hk.2 i h (by omega)⟩, by dsimp only; omega, weak_frM _ ⟨rfl, rfl, rfl, trivial⟩ (rfl)⟩
          · skip
            have hge : m.st.length ≤ k := by simpa using h4
            refine ac_exit ?_
            refine qt_exit ?_
            refine qt_exit ?_
            refine qb_exit ?_
            refine qt_normal ?_
            refine ac_seq ?_
            refine ac_region ?_
            refine al_y rfl rfl (y_assignV rfl rfl) ?_
            refine al_nil ?_
            refine qt_normal ?_
            refine ac_ret ?_
            exact ⟨.inr rfl, AVle.of (by rw [show fitsB m f = true from by simp only [fitsB, hsz, hpy, Bool.true_and]; unfold stnsB; rw [List.all_eq_true]; intro s hs; obtain ⟨i, hi, rfl⟩ := List.getElem_of_mem hs; exact hk.2 i hi (by omega)])⟩
end Go.Av
end
