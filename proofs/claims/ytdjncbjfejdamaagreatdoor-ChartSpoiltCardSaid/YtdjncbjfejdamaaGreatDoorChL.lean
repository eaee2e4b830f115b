/- Fields. · Fields as defined. -/
import Derived.Test.YtdjncbjfejdamaaGreatDoorChE
set_option linter.unusedVariables false
set_option linter.unusedSimpArgs false
section
namespace Go.Av
open Go.Proofs
set_option maxRecDepth 100000
set_option maxHeartbeats 1000000
set_option linter.unusedSimpArgs false
variable {G : Glob}

/-- isobarlaw03.few -/
theorem f26 (f : Fld) : ACall Tryz.prog G 26 [.agg (eFld f)] (.v (.bool (decide ((f.vals.length : Int) ≤ 40)))) := by
  refine acall_of Tryz.func26 rfl (by kernel_rfl) rfl ?_
  refine ac_seq ?_
  refine ac_region ?_
  refine al_y rfl rfl (y_box rfl (cE_agg rfl)) ?_
  refine al_y rfl rfl (y_assignV rfl rfl) ?_
  refine al_nil ?_
  refine qt_normal ?_
  refine ac_seq ?_
  refine ac_region ?_
  refine al_y rfl rfl (y_fieldAddr rfl rfl fld29_1) ?_
  refine al_y rfl rfl (y_load1 rfl rfl rfl ty27) ?_
  refine al_y rfl rfl (y_len rfl rfl rfl Tryz.underlying27) ?_
  refine al_y rfl rfl (y_leq rfl rfl rfl) ?_
  refine al_y rfl rfl (y_assignV rfl rfl) ?_
  refine al_nil ?_
  refine qt_normal ?_
  refine ac_ret ?_
  exact ⟨.inr rfl, AVle.of (by simp)⟩

/-- chart.rows$1 -/
theorem f117 (n : Int) : ACall Tryz.prog G 117 [.v (.int .i64 n)] (.v (.bool (!inB n 0 99999))) := by
  refine acall_of Tryz.func117 rfl (by kernel_rfl) rfl ?_
  refine ac_seq ?_
  refine ac_region ?_
  refine al_y rfl rfl (y_assignV rfl rfl) ?_
  refine al_nil ?_
  refine qt_normal ?_
  refine ac_seq ?_
  refine ac_region ?_
  refine al_y rfl rfl (y_moveV rfl rfl) ?_
  refine al_y rfl rfl (y_callF (av := [_, _, _]) rfl ⟨rfl, rfl, rfl, trivial⟩ (f68 n 0 99999)) ?_
  refine al_y rfl rfl (y_not rfl rfl) ?_
  refine al_y rfl rfl (y_assignV rfl rfl) ?_
  refine al_nil ?_
  refine qt_normal ?_
  refine ac_ret ?_
  exact ⟨.inr rfl, AVle.refl _⟩

theorem any_takeI {l : List Int} {h : Int → Bool} {k : Nat} (h0 : (l.take k).any h = false) (hk : k < l.length) (h1 : h l[k] = false) : (l.take (k + 1)).any h = false := by
  rw [List.take_succ_eq_append_getElem hk, List.any_append, h0]; simp [h1]
theorem any_atI {l : List Int} {h : Int → Bool} {k : Nat} (hk : k < l.length) (h1 : h l[k] = true) : l.any h = true := List.any_eq_true.2 ⟨_, List.getElem_mem hk, h1⟩

/-- chart.first[int] -/
theorem f116 (l : List Int) (h : Int → Bool) (f : FuncId) (fs cs : List AV) (hl : l.length ≤ 1000) (hf : ∀ n ∈ l, ACall Tryz.prog G f (fs ++ [.v (.int .i64 n)] ++ cs) (.v (.bool (h n)))) : ACall Tryz.prog G 116 [eInts l, .fn f fs cs] (.tup [.top, .v (.bool (l.any h))]) := by
  have hF := Lib.hid hf
  clear hf
  refine acall_of Tryz.func116 rfl (by kernel_rfl) rfl ?_
  refine ac_seq ?_
  refine ac_region ?_
  refine al_y rfl rfl (y_assignV rfl rfl) ?_
  refine al_y rfl rfl (y_assignV rfl rfl) ?_
  refine al_nil ?_
  refine qt_normal ?_
  refine ac_seq ?_
  refine ac_seq ?_
  refine ac_region ?_
  refine al_y rfl rfl (y_moveP rfl rfl) ?_
  refine al_y rfl rfl (y_len rfl rfl rfl Tryz.underlying27) ?_
  refine al_y rfl rfl (y_moveV rfl rfl) ?_
  refine al_nil ?_
  refine qt_normal ?_
  refine ac_block ?_
  refine ac_loop (ι := { k : Nat // k ≤ l.length ∧ (l.take k).any h = false }) (fun k => ⟨Tryz.f116.ntmps, frL [(1, .pub (.fn f fs cs)), (9, .pub (eInts l)), (10, I (l.length : Int)), (11, I (k.1 : Int))], []⟩) (fun k => l.length - k.1) (⟨0, by simp⟩) ?_ ?_
  · exact weak_frM _ ⟨rfl, rfl, (congrArg (fun x : Nat => I (x : Int)) (List.length_map _)), rfl, trivial⟩ (rfl)
  · rintro ⟨k, hk⟩
    dsimp only
    refine ac_seq ?_
    refine ac_region ?_
    refine al_y rfl rfl (y_lss rfl rfl rfl) ?_
    refine al_nil ?_
    refine qt_normal ?_
    refine ac_seq ?_
    refine ac_cond rfl (fun h0 => ?_) (fun h0 => ?_)
    · skip
      have hlt : k < l.length := by simpa using h0
      refine ac_skip ?_
      refine qt_normal ?_
      refine ac_seq ?_
      refine ac_block ?_
      refine ac_seq ?_
      refine ac_region ?_
      refine al_y rfl rfl (y_indexAddr rfl rfl rfl slc27 (by omega) (int_at hlt) int_len) ?_
      refine al_y rfl rfl (y_load1 rfl rfl rfl ty3) ?_
      refine al_y rfl rfl (y_assignV rfl rfl) ?_
      refine al_nil ?_
      refine qt_normal ?_
      refine ac_seq ?_
      refine ac_region ?_
      refine al_y rfl rfl (y_moveP rfl rfl) ?_
      refine al_y rfl rfl (y_moveV rfl rfl) ?_
      refine al_y rfl rfl (y_callV (av := [_]) rfl rfl ⟨rfl, trivial⟩ (hF.out _ (List.getElem_mem hlt))) ?_
      refine al_nil ?_
      refine qt_normal ?_
      refine ac_cond rfl (fun h1 => ?_) (fun h1 => ?_)
      · skip
        refine ac_seq ?_
        refine ac_region ?_
        refine al_y rfl rfl (y_moveV rfl rfl) ?_
        refine al_y rfl rfl (y_assignV rfl rfl) ?_
        refine al_y rfl rfl (y_assignV rfl rfl) ?_
        refine al_nil ?_
        refine qt_normal ?_
        refine ac_ret ?_
        refine qb_ret ?_
        refine qt_ret ?_
        refine qt_ret ?_
        refine qb_ret ?_
        refine qt_ret ?_
        exact ⟨.inr rfl, ⟨_, rfl, ⟨_, _, rfl, (fun _ _ _ _ => by simp only [Fits]), ⟨_, _, rfl, AVle.of (by rw [any_atI hlt h1]), rfl⟩⟩⟩⟩
      · skip
        refine ac_skip ?_
        refine qb_normal ?_
        refine qt_normal ?_
        refine ac_region ?_
        refine al_y rfl rfl (y_add rfl rfl rfl ⟨(by omega), (by omega)⟩) ?_
        refine al_y rfl rfl (y_moveV rfl rfl) ?_
        refine al_nil ?_
        exact ⟨⟨k + 1, by omega, any_takeI hk.2 hlt h1⟩, by dsimp only; omega, weak_frM _ ⟨rfl, rfl, rfl, rfl, trivial⟩ (rfl)⟩
    · skip
      have hge : l.length ≤ k := by simpa using h0
      refine ac_exit ?_
      refine qt_exit ?_
      refine qt_exit ?_
      refine qb_exit ?_
      refine qt_normal ?_
      refine ac_seq ?_
      refine ac_region ?_
      refine al_y rfl rfl (y_assignV rfl rfl) ?_
      refine al_nil ?_
      refine qt_normal ?_
      refine ac_seq ?_
      refine ac_region ?_
      refine al_y rfl rfl (y_moveV rfl rfl) ?_
      refine al_y rfl rfl (y_assignV rfl rfl) ?_
      refine al_y rfl rfl (y_assignV rfl rfl) ?_
      refine al_nil ?_
      refine qt_normal ?_
      refine ac_ret ?_
      exact ⟨.inr rfl, ⟨_, rfl, ⟨_, _, rfl, (fun _ _ _ _ => by simp only [Fits]), ⟨_, _, rfl, AVle.of (by rw [List.take_of_length_le hge] at hk; rw [hk.2]), rfl⟩⟩⟩⟩
end Go.Av
end

section
namespace Go.Av
open Go.Proofs
set_option maxRecDepth 100000
set_option maxHeartbeats 1000000
set_option linter.unusedSimpArgs false
variable {G : Glob}

def shapeB (f : Fld) : Bool := inB f.wide 1 6 && (((f.vals.length : Int) % f.wide == 0) && inB ((f.vals.length : Int) / f.wide) 1 5)
def valsB (f : Fld) : Bool := !(f.vals.any fun n => !inB n 0 99999)
def rowsOf (f : Fld) : Int := (f.vals.length : Int) / f.wide

/-- chart.rows -/
theorem f67_ok (f : Fld) (hl : f.vals.length ≤ 1000) (hb : shapeB f = true) : ACall Tryz.prog G 67 [.agg (eFld f)] (.tup [ei (rowsOf f), .v (.bool (valsB f))]) := by
  have hb1 := hb
  unfold shapeB at hb1
  simp only [Bool.and_eq_true] at hb1
  have hw1 := inB_iff.1 hb1.1
  refine acall_of Tryz.func67 rfl (by kernel_rfl) rfl ?_
  refine ac_seq ?_
  refine ac_region ?_
  refine al_y rfl rfl (y_box rfl (cE_agg rfl)) ?_
  refine al_y rfl rfl (y_assignV rfl rfl) ?_
  refine al_y rfl rfl (y_assignV rfl rfl) ?_
  refine al_nil ?_
  refine qt_normal ?_
  refine ac_seq ?_
  refine ac_seq ?_
  refine ac_region ?_
  refine al_y rfl rfl (y_fieldAddr rfl rfl fld29_0) ?_
  refine al_y rfl rfl (y_load1 rfl rfl rfl ty3) ?_
  refine al_y rfl rfl (y_callF (av := [_, _, _]) rfl ⟨rfl, rfl, rfl, trivial⟩ (f68 _ _ _)) ?_
  refine al_y rfl rfl (y_not rfl rfl) ?_
  refine al_y rfl rfl (y_moveV rfl rfl) ?_
  refine al_maybe rfl rfl rfl (fun hg => y_fieldAddr rfl rfl fld29_1) ?_
  refine al_maybe rfl rfl rfl (fun hg => y_load1 rfl (if_pos hg) rfl ty27) ?_
  refine al_maybe rfl rfl rfl (fun hg => y_len rfl rfl (if_pos hg) Tryz.underlying27) ?_
  refine al_maybe rfl rfl rfl (fun hg => y_fieldAddr rfl rfl fld29_0) ?_
  refine al_maybe rfl rfl rfl (fun hg => y_load1 rfl (if_pos hg) rfl ty3) ?_
  refine al_maybe rfl rfl rfl (fun hg => y_rem rfl (if_pos hg) (if_pos hg) ⟨by simp, by have := inB_iff.1 (by simpa using hg : inB f.wide 1 6 = true); omega⟩) ?_
  refine al_maybe rfl rfl rfl (fun hg => y_neq rfl (if_pos hg) rfl) ?_
  refine al_y rfl rfl (y_or rfl rfl rfl rfl) ?_
  refine al_y rfl rfl (y_moveV rfl rfl) ?_
  refine al_maybe rfl rfl rfl (fun hg => y_fieldAddr rfl rfl fld29_1) ?_
  refine al_maybe rfl rfl rfl (fun hg => y_load1 rfl (if_pos hg) rfl ty27) ?_
  refine al_maybe rfl rfl rfl (fun hg => y_len rfl rfl (if_pos hg) Tryz.underlying27) ?_
  refine al_maybe rfl rfl rfl (fun hg => y_fieldAddr rfl rfl fld29_0) ?_
  refine al_maybe rfl rfl rfl (fun hg => y_load1 rfl (if_pos hg) rfl ty3) ?_
  refine al_maybe rfl rfl rfl (fun hg => y_quo rfl (if_pos hg) (if_pos hg) ⟨by simp, by simp; omega, by simp at hg; have := inB_iff.1 hg.1; omega⟩) ?_
  refine al_maybe rfl rfl rfl (fun hg => y_callF (av := [_, _, _]) rfl ⟨((if_pos hg)), rfl, rfl, trivial⟩ (f68 _ _ _)) ?_
  refine al_maybe rfl rfl rfl (fun hg => y_not rfl (if_pos hg)) ?_
  refine al_y rfl rfl (y_or rfl rfl rfl rfl) ?_
  refine al_nil ?_
  refine qt_normal ?_
  refine ac_cond rfl (fun h0 => ?_) (fun h0 => ?_)
  · skip
    exfalso; simp at hb1; simp [hb1.1, hb1.2.1, hb1.2.2] at h0
  · skip
    refine ac_skip ?_
    refine qt_normal ?_
    refine ac_seq ?_
    refine ac_region ?_
    refine al_y rfl rfl (y_fieldAddr rfl rfl fld29_1) ?_
    refine al_y rfl rfl (y_load1 rfl rfl rfl ty27) ?_
    refine al_y rfl rfl (y_callF (av := [_, _]) rfl ⟨rfl, rfl, trivial⟩ (f116 f.vals (fun n => !inB n 0 99999) 117 [] [] hl (fun n _ => f117 n))) ?_
    refine al_y rfl rfl (y_moveP rfl rfl) ?_
    refine al_y rfl rfl (y_extract rfl rfl rfl) ?_
    refine al_y rfl rfl (y_extract rfl rfl rfl) ?_
    refine al_y rfl rfl (y_assignP rfl rfl) ?_
    refine al_y rfl rfl (y_assignV rfl rfl) ?_
    refine al_nil ?_
    refine qt_normal ?_
    refine ac_seq ?_
    refine ac_region ?_
    refine al_y rfl rfl (y_fieldAddr rfl rfl fld29_1) ?_
    refine al_y rfl rfl (y_load1 rfl rfl rfl ty27) ?_
    refine al_y rfl rfl (y_len rfl rfl rfl Tryz.underlying27) ?_
    refine al_y rfl rfl (y_fieldAddr rfl rfl fld29_0) ?_
    refine al_y rfl rfl (y_load1 rfl rfl rfl ty3) ?_
    refine al_y rfl rfl (y_quo rfl rfl rfl ⟨by simp, by simp; omega, by omega⟩) ?_
    refine al_y rfl rfl (y_moveV rfl rfl) ?_
    refine al_y rfl rfl (y_not rfl rfl) ?_
    refine al_y rfl rfl (y_assignV rfl rfl) ?_
    refine al_y rfl rfl (y_assignV rfl rfl) ?_
    refine al_nil ?_
    refine qt_normal ?_
    refine ac_ret ?_
    exact ⟨.inr rfl, ⟨_, rfl, ⟨_, _, rfl, AVle.of (by simp [rowsOf, ei]), ⟨_, _, rfl, AVle.of (by simp [valsB]), rfl⟩⟩⟩⟩
end Go.Av
end
