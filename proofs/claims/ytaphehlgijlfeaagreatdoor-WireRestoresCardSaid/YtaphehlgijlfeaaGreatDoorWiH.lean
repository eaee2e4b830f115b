/- Words, lists. -/
import Derived.Test.YtaphehlgijlfeaaGreatDoorWiG
set_option linter.unusedVariables false
set_option linter.unusedSimpArgs false
section
namespace Go.Av
open Go.Proofs
set_option maxRecDepth 100000
set_option maxHeartbeats 1000000
set_option linter.unusedSimpArgs false
variable {G : Glob}

/-- isobarref02.Same -/
theorem f39 (a b : List Int) (ha : a.length ≤ 100000) : ACall Tryz.prog G 39 [eInts a, eInts b] (.v (.bool (decide (a = b)))) := by
  refine acall_of Tryz.func39 rfl (by kernel_rfl) rfl ?_
  refine ac_seq ?_
  refine ac_region ?_
  first | refine al_y rfl rfl (y_assignV rfl rfl) ?_ | refine al_y rfl rfl (y_assignP rfl rfl) ?_ | refine al_y rfl rfl (y_assignS rfl rfl) ?_ | refine al_y rfl rfl (y_assignG rfl rfl) ?_
  refine al_nil ?_
  refine qt_normal ?_
  refine ac_seq ?_
  refine ac_seq ?_
  refine ac_region ?_
  first | refine al_y rfl rfl (y_moveV rfl rfl) ?_ | refine al_y rfl rfl (y_moveP rfl rfl) ?_ | refine al_y rfl rfl (y_moveS rfl rfl) ?_ | refine al_y rfl rfl (y_moveG rfl rfl) ?_
  first | refine al_y rfl rfl (y_len rfl rfl rfl Tryz.underlying23) ?_ | refine al_y rfl rfl (y_len_psl rfl rfl rfl (by simp) Tryz.underlying23) ?_ | refine al_y rfl rfl (y_len_nil rfl rfl Tryz.underlying23) ?_
  first | refine al_y rfl rfl (y_moveV rfl rfl) ?_ | refine al_y rfl rfl (y_moveP rfl rfl) ?_ | refine al_y rfl rfl (y_moveS rfl rfl) ?_ | refine al_y rfl rfl (y_moveG rfl rfl) ?_
  first | refine al_y rfl rfl (y_len rfl rfl rfl Tryz.underlying23) ?_ | refine al_y rfl rfl (y_len_psl rfl rfl rfl (by simp) Tryz.underlying23) ?_ | refine al_y rfl rfl (y_len_nil rfl rfl Tryz.underlying23) ?_
  refine al_y rfl rfl (y_neq rfl rfl rfl) ?_
  refine al_nil ?_
  refine qt_normal ?_
  refine ac_cond rfl (fun h0 => ?_) (fun h0 => ?_)
  · skip
    have hne : a.length ≠ b.length := by simp [eInts] at h0; omega
    refine ac_seq ?_
    refine ac_region ?_
    first | refine al_y rfl rfl (y_assignV rfl rfl) ?_ | refine al_y rfl rfl (y_assignP rfl rfl) ?_ | refine al_y rfl rfl (y_assignS rfl rfl) ?_ | refine al_y rfl rfl (y_assignG rfl rfl) ?_
    refine al_nil ?_
    refine qt_normal ?_
    refine ac_ret ?_
    refine qt_ret ?_
    exact ⟨.inr rfl, AVle.of (by rw [decide_eq_false (fun e : a = b => hne (by rw [e]))])⟩
  · skip
    have hle : a.length = b.length := by simp [eInts] at h0; omega
    refine ac_skip ?_
    refine qt_normal ?_
    refine ac_seq ?_
    refine ac_seq ?_
    refine ac_region ?_
    first | refine al_y rfl rfl (y_assignV rfl rfl) ?_ | refine al_y rfl rfl (y_assignP rfl rfl) ?_ | refine al_y rfl rfl (y_assignS rfl rfl) ?_ | refine al_y rfl rfl (y_assignG rfl rfl) ?_
    refine al_nil ?_
    refine qt_normal ?_
    refine ac_block ?_
    refine ac_loop (ι := { q : Nat // q ≤ a.length ∧ a.take q = b.take q }) (fun q => ⟨Tryz.f39.ntmps, frL [(0, .pub (eInts a)), (1, .pub (eInts b)), (5, I (q.1 : Int))], []⟩) (fun q => a.length - q.1) (⟨0, by simp⟩) ?_ ?_
    · exact weak_frM _ ⟨rfl, rfl, rfl, trivial⟩ (rfl)
    · rintro ⟨q, hq⟩
      dsimp only
      refine ac_seq ?_
      refine ac_seq ?_
      refine ac_region ?_
      first | refine al_y rfl rfl (y_moveV rfl rfl) ?_ | refine al_y rfl rfl (y_moveP rfl rfl) ?_ | refine al_y rfl rfl (y_moveS rfl rfl) ?_ | refine al_y rfl rfl (y_moveG rfl rfl) ?_
      first | refine al_y rfl rfl (y_moveV rfl rfl) ?_ | refine al_y rfl rfl (y_moveP rfl rfl) ?_ | refine al_y rfl rfl (y_moveS rfl rfl) ?_ | refine al_y rfl rfl (y_moveG rfl rfl) ?_
      first | refine al_y rfl rfl (y_len rfl rfl rfl Tryz.underlying23) ?_ | refine al_y rfl rfl (y_len_psl rfl rfl rfl (by simp) Tryz.underlying23) ?_ | refine al_y rfl rfl (y_len_nil rfl rfl Tryz.underlying23) ?_
      refine al_y rfl rfl (y_lss rfl rfl rfl) ?_
      refine al_nil ?_
      refine qt_normal ?_
      refine ac_cond rfl (fun h1 => ?_) (fun h1 => ?_)
      · skip
        have hlt : q < a.length := by simpa [eInts] using h1
        have hlb : q < b.length := by omega
        refine ac_skip ?_
        refine qt_normal ?_
        refine ac_seq ?_
        refine ac_block ?_
        refine ac_seq ?_
        refine ac_draw mixed (by kernel_rfl) rfl ?_
        first | refine aq_y rfl (y_moveV rfl rfl) ?_ | refine aq_y rfl (y_moveP rfl rfl) ?_ | refine aq_y rfl (y_moveS rfl rfl) ?_ | refine aq_y rfl (y_moveG rfl rfl) ?_
        first | refine aq_y rfl (y_moveV rfl rfl) ?_ | refine aq_y rfl (y_moveP rfl rfl) ?_ | refine aq_y rfl (y_moveS rfl rfl) ?_ | refine aq_y rfl (y_moveG rfl rfl) ?_
        first | refine aq_y rfl (y_indexAddr rfl rfl rfl slc23 (by omega) (int_at hlt) int_len) ?_ | refine aq_y rfl (y_indexAddr_psl rfl rfl rfl rfl rfl slc23 (by omega) (int_at hlt) int_len) ?_
        first | refine aq_y rfl (y_load1 rfl rfl rfl ty3) ?_ | refine aq_y rfl (y_load_pp1 rfl rfl rfl rfl rfl rfl ty3) ?_
        first | refine aq_y rfl (y_moveV rfl rfl) ?_ | refine aq_y rfl (y_moveP rfl rfl) ?_ | refine aq_y rfl (y_moveS rfl rfl) ?_ | refine aq_y rfl (y_moveG rfl rfl) ?_
        first | refine aq_y rfl (y_moveV rfl rfl) ?_ | refine aq_y rfl (y_moveP rfl rfl) ?_ | refine aq_y rfl (y_moveS rfl rfl) ?_ | refine aq_y rfl (y_moveG rfl rfl) ?_
        first | refine aq_y rfl (y_indexAddr rfl rfl rfl slc23 (by omega) (int_at hlb) int_len) ?_ | refine aq_y rfl (y_indexAddr_psl rfl rfl rfl rfl rfl slc23 (by omega) (int_at hlb) int_len) ?_
        first | refine aq_y rfl (y_load1 rfl rfl rfl ty3) ?_ | refine aq_y rfl (y_load_pp1 rfl rfl rfl rfl rfl rfl ty3) ?_
        refine aq_y rfl (y_neq rfl rfl rfl) ?_
        refine aq_nil ?_
        refine qt_normal ?_
        refine ac_cond rfl (fun h2 => ?_) (fun h2 => ?_)
        · skip
          have hb : a[q] ≠ b[q] := by simpa using h2
          refine ac_seq ?_
          refine ac_region ?_
          first | refine al_y rfl rfl (y_assignV rfl rfl) ?_ | refine al_y rfl rfl (y_assignP rfl rfl) ?_ | refine al_y rfl rfl (y_assignS rfl rfl) ?_ | refine al_y rfl rfl (y_assignG rfl rfl) ?_
          refine al_nil ?_
          refine qt_normal ?_
          refine ac_ret ?_
          refine qb_ret ?_
          refine qt_ret ?_
          refine qt_ret ?_
          refine qb_ret ?_
          refine qt_ret ?_
          exact ⟨.inr rfl, AVle.of (by rw [decide_eq_false (fun e : a = b => hb (by subst e; rfl))])⟩
        · skip
          have hb : a[q] = b[q] := by simpa using h2
          refine ac_skip ?_
          refine qb_normal ?_
          refine qt_normal ?_
          refine ac_region ?_
          first | refine al_y rfl rfl (y_moveV rfl rfl) ?_ | refine al_y rfl rfl (y_moveP rfl rfl) ?_ | refine al_y rfl rfl (y_moveS rfl rfl) ?_ | refine al_y rfl rfl (y_moveG rfl rfl) ?_
          refine al_y rfl rfl (y_add rfl rfl rfl ⟨(by omega), (by omega)⟩) ?_
          first | refine al_y rfl rfl (y_assignV rfl rfl) ?_ | refine al_y rfl rfl (y_assignP rfl rfl) ?_ | refine al_y rfl rfl (y_assignS rfl rfl) ?_ | refine al_y rfl rfl (y_assignG rfl rfl) ?_
          refine al_nil ?_
          exact ⟨⟨q + 1, by omega, by rw [List.take_succ_eq_append_getElem hlt, List.take_succ_eq_append_getElem hlb, hq.2, hb]⟩, by dsimp only; omega, weak_frM _ ⟨rfl, rfl, rfl, trivial⟩ (rfl)⟩
      · skip
        have hge : a.length ≤ q := by simpa [eInts] using h1
        refine ac_exit ?_
        refine qt_exit ?_
        refine qt_exit ?_
        refine qb_exit ?_
        refine qt_normal ?_
        refine ac_seq ?_
        refine ac_region ?_
        first | refine al_y rfl rfl (y_assignV rfl rfl) ?_ | refine al_y rfl rfl (y_assignP rfl rfl) ?_ | refine al_y rfl rfl (y_assignS rfl rfl) ?_ | refine al_y rfl rfl (y_assignG rfl rfl) ?_
        refine al_nil ?_
        refine qt_normal ?_
        refine ac_ret ?_
        exact ⟨.inr rfl, AVle.of (by rw [List.take_of_length_le hge, List.take_of_length_le (by omega)] at hq; rw [decide_eq_true hq.2])⟩
end Go.Av
end
