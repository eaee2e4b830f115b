/- The reference: fields. · The reference: which fields fit. -/
import Derived.Test.YtdjncbjfejdamaaGreatDoorChL
set_option linter.unusedVariables false
set_option linter.unusedSimpArgs false
section
namespace Go.Av
open Go.Proofs
set_option maxRecDepth 100000
set_option maxHeartbeats 1000000
set_option linter.unusedSimpArgs false
variable {G : Glob}

def fieldB (f : Fld) : Bool := shapeB f && valsB f
theorem valsB_at {f : Fld} {k : Nat} (hk : k < f.vals.length) (h : inB f.vals[k] 0 99999 = false) : valsB f = false := by
  unfold valsB; rw [any_atI (h := fun n => !inB n 0 99999) hk (by simp [h])]; rfl

/-- isobarref03.Field -/
theorem f28 (f : Fld) (hl : f.vals.length ≤ 1000) : ACall Tryz.prog G 28 [.agg (eFld f)] (.v (.bool (fieldB f))) := by
  refine acall_of Tryz.func28 rfl (by kernel_rfl) rfl ?_
  refine ac_seq ?_
  refine ac_region ?_
  refine al_y rfl rfl (y_box rfl (cE_agg rfl)) ?_
  refine al_y rfl rfl (y_assignV rfl rfl) ?_
  refine al_nil ?_
  refine qt_normal ?_
  refine ac_seq ?_
  refine ac_seq ?_
  refine ac_region ?_
  refine al_y rfl rfl (y_fieldAddr rfl rfl fld29_0) ?_
  refine al_y rfl rfl (y_load1 rfl rfl rfl ty3) ?_
  refine al_y rfl rfl (y_callF (av := [_, _, _]) rfl ⟨rfl, rfl, rfl, trivial⟩ (f78 _ _ _)) ?_
  refine al_y rfl rfl (y_not rfl rfl) ?_
  refine al_y rfl rfl (y_moveV rfl rfl) ?_
  refine al_maybe rfl rfl rfl (fun hg => y_fieldAddr rfl rfl fld29_1) ?_
  refine al_maybe rfl rfl rfl (fun hg => y_load1 rfl (if_pos hg) rfl ty27) ?_
  refine al_maybe rfl rfl rfl (fun hg => y_len rfl rfl (if_pos hg) Tryz.underlying27) ?_
  refine al_maybe rfl rfl rfl (fun hg => y_fieldAddr rfl rfl fld29_0) ?_
  refine al_maybe rfl rfl rfl (fun hg => y_load1 rfl (if_pos hg) rfl ty3) ?_
  refine al_maybe rfl rfl rfl (fun hg => y_rem rfl (if_pos hg) (if_pos hg) ⟨by simp, by have := inB_iff.1 (by simpa using hg : inB f.wide 1 6 = true); omega⟩) ?_
  refine al_maybe rfl rfl rfl (fun hg => y_neq rfl (if_pos hg) rfl) ?_
  refine al_y rfl rfl (y_or rfl rfl rfl rfl) ?_
  refine al_y rfl rfl (y_moveV rfl rfl) ?_
  refine al_maybe rfl rfl rfl (fun hg => y_fieldAddr rfl rfl fld29_1) ?_
  refine al_maybe rfl rfl rfl (fun hg => y_load1 rfl (if_pos hg) rfl ty27) ?_
  refine al_maybe rfl rfl rfl (fun hg => y_len rfl rfl (if_pos hg) Tryz.underlying27) ?_
  refine al_maybe rfl rfl rfl (fun hg => y_fieldAddr rfl rfl fld29_0) ?_
  refine al_maybe rfl rfl rfl (fun hg => y_load1 rfl (if_pos hg) rfl ty3) ?_
  refine al_maybe rfl rfl rfl (fun hg => y_quo rfl (if_pos hg) (if_pos hg) ⟨by simp, by simp; omega, by simp at hg; have := inB_iff.1 hg.1; omega⟩) ?_
  refine al_maybe rfl rfl rfl (fun hg => y_callF (av := [_, _, _]) rfl ⟨((if_pos hg)), rfl, rfl, trivial⟩ (f78 _ _ _)) ?_
  refine al_maybe rfl rfl rfl (fun hg => y_not rfl (if_pos hg)) ?_
  refine al_y rfl rfl (y_or rfl rfl rfl rfl) ?_
  refine al_nil ?_
  refine qt_normal ?_
  refine ac_cond rfl (fun h0 => ?_) (fun h0 => ?_)
  · skip
    have hsh : shapeB f = false := by unfold shapeB; simp at h0 ⊢; intro q1 q2; cases hq : inB ((f.vals.length : Int) / f.wide) 1 5; rfl; exfalso; simp [q1, q2, hq] at h0
    refine ac_seq ?_
    refine ac_region ?_
    refine al_y rfl rfl (y_assignV rfl rfl) ?_
    refine al_nil ?_
    refine qt_normal ?_
    refine ac_ret ?_
    refine qt_ret ?_
    exact ⟨.inr rfl, AVle.of (by simp [fieldB, hsh])⟩
  · skip
    have hsh : shapeB f = true := by unfold shapeB; simp at h0 ⊢; exact ⟨h0.1.1, h0.1.2, h0.2⟩
    refine ac_skip ?_
    refine qt_normal ?_
    refine ac_seq ?_
    refine ac_seq ?_
    refine ac_region ?_
    refine al_y rfl rfl (y_assignV rfl rfl) ?_
    refine al_nil ?_
    refine qt_normal ?_
    refine ac_block ?_
    refine ac_loop (ι := { k : Nat // k ≤ f.vals.length ∧ (f.vals.take k).any (fun n => !inB n 0 99999) = false }) (fun k => ⟨Tryz.f28.ntmps, frL [(1, .pub (.ptr (eFld f))), (3, I (k.1 : Int))], []⟩) (fun k => f.vals.length - k.1) (⟨0, by simp⟩) ?_ ?_
    · exact weak_frM _ ⟨rfl, rfl, trivial⟩ (rfl)
    · rintro ⟨k, hk⟩
      dsimp only
      refine ac_seq ?_
      refine ac_seq ?_
      refine ac_region ?_
      refine al_y rfl rfl (y_moveV rfl rfl) ?_
      refine al_y rfl rfl (y_fieldAddr rfl rfl fld29_1) ?_
      refine al_y rfl rfl (y_load1 rfl rfl rfl ty27) ?_
      refine al_y rfl rfl (y_len rfl rfl rfl Tryz.underlying27) ?_
      refine al_y rfl rfl (y_lss rfl rfl rfl) ?_
      refine al_nil ?_
      refine qt_normal ?_
      refine ac_cond rfl (fun h1 => ?_) (fun h1 => ?_)
      · skip
        have hlt : k < f.vals.length := by simpa using h1
        refine ac_skip ?_
        refine qt_normal ?_
        refine ac_seq ?_
        refine ac_block ?_
        refine ac_seq ?_
        refine ac_region ?_
        refine al_y rfl rfl (y_fieldAddr rfl rfl fld29_1) ?_
        refine al_y rfl rfl (y_load1 rfl rfl rfl ty27) ?_
        refine al_y rfl rfl (y_moveV rfl rfl) ?_
        refine al_y rfl rfl (y_indexAddr rfl rfl rfl slc27 (by omega) (int_at hlt) int_len) ?_
        refine al_y rfl rfl (y_load1 rfl rfl rfl ty3) ?_
        refine al_y rfl rfl (y_callF (av := [_]) rfl ⟨rfl, trivial⟩ (f79 _)) ?_
        refine al_y rfl rfl (y_not rfl rfl) ?_
        refine al_nil ?_
        refine qt_normal ?_
        refine ac_cond rfl (fun h2 => ?_) (fun h2 => ?_)
        · skip
          have hno : inB f.vals[k] 0 99999 = false := by simpa using h2
          refine ac_seq ?_
          refine ac_region ?_
          refine al_y rfl rfl (y_assignV rfl rfl) ?_
          refine al_nil ?_
          refine qt_normal ?_
          refine ac_ret ?_
          refine qb_ret ?_
          refine qt_ret ?_
          refine qt_ret ?_
          refine qb_ret ?_
          refine qt_ret ?_
          exact ⟨.inr rfl, AVle.of (by simp [fieldB, valsB_at hlt hno])⟩
        · skip
          have hyes : inB f.vals[k] 0 99999 = true := by simpa using h2
          refine ac_skip ?_
          refine qb_normal ?_
          refine qt_normal ?_
          refine ac_region ?_
          refine al_y rfl rfl (y_moveV rfl rfl) ?_
          refine al_y rfl rfl (y_add rfl rfl rfl ⟨(by omega), (by omega)⟩) ?_
          refine al_y rfl rfl (y_assignV rfl rfl) ?_
          refine al_nil ?_
          exact ⟨⟨k + 1, by omega, any_takeI hk.2 hlt (by simp [hyes])⟩, by dsimp only; omega, weak_frM _ ⟨rfl, rfl, trivial⟩ (rfl)⟩
      · skip
        have hge : f.vals.length ≤ k := by simpa using h1
        refine ac_exit ?_
        refine qt_exit ?_
        refine qt_exit ?_
        refine qb_exit ?_
        refine qt_normal ?_
        refine ac_seq ?_
        refine ac_region ?_
        refine al_y rfl rfl (y_assignV rfl rfl) ?_
        refine al_nil ?_
        refine qt_normal ?_
        refine ac_ret ?_
        exact ⟨.inr rfl, AVle.of (by have h := hk.2; rw [List.take_of_length_le hge] at h; simp only [fieldB, hsh, valsB, h]; rfl)⟩
end Go.Av
end

section
namespace Go.Av
open Go.Proofs
set_option maxRecDepth 100000
set_option maxHeartbeats 1000000
set_option linter.unusedSimpArgs false
variable {G : Glob}

def nearB (m : Mp) (f : Fld) (i j : Nat) : Bool := (dist f.wide (i : Int) (j : Int) == 1) && decide (m.slope < absd (f.vals.getD i 0) (f.vals.getD j 0))
def pairsB (m : Mp) (f : Fld) : Bool := (List.range f.vals.length).all fun i => (List.range i).all fun j => !nearB m f i j
def stnsB (m : Mp) (f : Fld) : Bool := m.st.all fun s => inB (f.vals.getD s.pt.toNat 0) s.lo s.hi
def sizeB (m : Mp) (f : Fld) : Bool := (f.wide == m.wide) && ((f.vals.length : Int) == m.wide * m.rows)
def fitsB (m : Mp) (f : Fld) : Bool := sizeB m f && (pairsB m f && stnsB m f)
theorem fld_bd {f : Fld} (h : fieldB f = true) : 1 ≤ f.wide ∧ f.wide ≤ 6 ∧ ∀ n ∈ f.vals, 0 ≤ n ∧ n ≤ 99999 := by
  unfold fieldB shapeB valsB at h
  simp only [Bool.and_eq_true, Bool.not_eq_true', List.any_eq_false] at h
  obtain ⟨⟨h1, _⟩, h2⟩ := h
  have hw := inB_iff.1 h1
  exact ⟨hw.1, hw.2, fun n hn => inB_iff.1 (by have := h2 n hn; simpa using this)⟩
theorem getD_at {l : List Int} {k : Nat} (h : k < l.length) : l.getD k 0 = l[k] := by simp [List.getD, h]
end Go.Av
end
