/- Copies that are asked; what they can be. · What the laws ask of copies; costs. -/
import Derived.Test.YtaphehlgijlfeaaGreatDoorWiN
import Derived.Test.YtaphehlgijlfeaaGreatDoorWiF
import Derived.Test.YtaphehlgijlfeaaGreatDoorWiH
set_option linter.unusedVariables false
set_option linter.unusedSimpArgs false
section
namespace Go.Av
open Go.Proofs
set_option maxRecDepth 100000
set_option maxHeartbeats 1000000
set_option linter.unusedSimpArgs false
variable {G : Glob}
theorem zv134 : (Tryz.prog.info? 134).bind (·.zero) = some (.agg #[.slice none 0 0, .slice none 0 0, .int .i64 0, .slice none 0 0]) := by kernel_rfl
theorem st134 : structIs Tryz.prog 134 [(0, 3), (3, 1)] [.slice none 0 0, .slice none 0 0, .int .i64 0, .slice none 0 0] := ⟨_, Tryz.underlying134, by kernel_rfl, by kernel_rfl⟩

theorem f165 (l : List (List (List UInt8))) (h : (List (List UInt8)) → Bool) (f : FuncId) (fs cs : List AV) (hl : l.length ≤ 1000) (hf : ∀ n ∈ l, ACall Tryz.prog G f (fs ++ [eStrs n] ++ cs) (.v (.bool (h n)))) : ACall Tryz.prog G 165 [eCps l, .fn f fs cs] (.v (.int .i64 (ixF h l))) := by
 have hF := Lib.hid hf
 clear hf
 refine acall_of Tryz.func165 rfl (by kernel_rfl) rfl ?_
 refine ac_seq ?_
 refine ac_region ?_
 refine al_y rfl rfl (y_assignV rfl rfl) ?_
 refine al_nil ?_
 refine qt_normal ?_
 refine ac_seq ?_
 refine ac_seq ?_
 refine ac_region ?_
 refine al_y rfl rfl (y_moveP rfl rfl) ?_
 refine al_y rfl rfl (y_len rfl rfl rfl Tryz.underlying26) ?_
 refine al_y rfl rfl (y_moveV rfl rfl) ?_
 refine al_nil ?_
 refine qt_normal ?_
 refine ac_block ?_
 refine ac_loop (ι := { k : Nat // k ≤ l.length ∧ (l.take k).any h = false }) (fun k => ⟨Tryz.f165.ntmps, frL [(0, .pub (eCps l)), (1, .pub (.fn f fs cs)), (7, I (l.length : Int)), (8, I (k.1 : Int))], []⟩) (fun k => l.length - k.1) (⟨0, by simp⟩) ?_ ?_
 ·
  exact weak_frM _ ⟨rfl, rfl, (congrArg (fun x : Nat => I (x : Int)) (List.length_map _)), rfl, trivial⟩ (rfl)
 ·
  rintro ⟨k, hk⟩
  dsimp only
  refine ac_seq ?_
  refine ac_region ?_
  refine al_y rfl rfl (y_lss rfl rfl rfl) ?_
  refine al_nil ?_
  refine qt_normal ?_
  refine ac_seq ?_
  refine ac_cond rfl (fun h0 => ?_) (fun h0 => ?_)
  ·
   have hlt : k < l.length := by simpa using h0
   refine ac_skip ?_
   refine qt_normal ?_
   refine ac_seq ?_
   refine ac_block ?_
   refine ac_seq ?_
   refine ac_region ?_
   refine al_y rfl rfl (y_moveV rfl rfl) ?_
   refine al_y rfl rfl (y_assignV rfl rfl) ?_
   refine al_nil ?_
   refine qt_normal ?_
   refine ac_seq ?_
   refine ac_region ?_
   refine al_y rfl rfl (y_moveP rfl rfl) ?_
   refine al_y rfl rfl (y_moveP rfl rfl) ?_
   refine al_y rfl rfl (y_moveV rfl rfl) ?_
   refine al_y rfl rfl (y_indexAddr rfl rfl rfl slc26 (by omega) (cps_at hlt) cps_len) ?_
   refine al_y rfl rfl (y_load1 rfl rfl rfl ty34) ?_
   refine al_y rfl rfl (y_callV (av := [_]) rfl rfl ⟨rfl, trivial⟩ (hF.out _ (List.getElem_mem hlt))) ?_
   refine al_nil ?_
   refine qt_normal ?_
   refine ac_cond rfl (fun h1 => ?_) (fun h1 => ?_)
   ·
    refine ac_seq ?_
    refine ac_region ?_
    refine al_y rfl rfl (y_moveV rfl rfl) ?_
    refine al_y rfl rfl (y_assignV rfl rfl) ?_
    refine al_nil ?_
    refine qt_normal ?_
    refine ac_ret ?_
    refine qb_ret ?_
    refine qt_ret ?_
    refine qt_ret ?_
    refine qb_ret ?_
    refine qt_ret ?_
    exact ⟨.inr rfl, AVle.of (by rw [ixF_at hlt hk.2 h1])⟩
   ·
    refine ac_skip ?_
    refine qb_normal ?_
    refine qt_normal ?_
    refine ac_region ?_
    refine al_y rfl rfl (y_add rfl rfl rfl ⟨(by omega), (by omega)⟩) ?_
    refine al_y rfl rfl (y_moveV rfl rfl) ?_
    refine al_nil ?_
    exact ⟨⟨k + 1, by omega, any_takeG hk.2 hlt h1⟩, by dsimp only; omega, weak_frM _ ⟨rfl, rfl, rfl, rfl, trivial⟩ (rfl)⟩
  ·
   have hge : l.length ≤ k := by simpa using h0
   refine ac_exit ?_
   refine qt_exit ?_
   refine qt_exit ?_
   refine qb_exit ?_
   refine qt_normal ?_
   refine ac_seq ?_
   refine ac_region ?_
   refine al_y rfl rfl (y_assignV rfl rfl) ?_
   refine al_nil ?_
   refine qt_normal ?_
   refine ac_ret ?_
   exact ⟨.inr rfl, AVle.of (by rw [List.take_of_length_le hge] at hk; rw [ixF_no hk.2])⟩

theorem f134 (l : List (List (List UInt8))) (h : (List (List UInt8)) → Bool) (f : FuncId) (fs cs : List AV) (hl : l.length ≤ 1000) (hf : ∀ n ∈ l, ACall Tryz.prog G f (fs ++ [eStrs n] ++ cs) (.v (.bool (h n)))) : ACall Tryz.prog G 134 [eCps l, .fn f fs cs] (.v (.bool (l.any h))) := by
 refine acall_of Tryz.func134 rfl (by kernel_rfl) rfl ?_
 refine ac_seq ?_
 refine ac_region ?_
 refine al_y rfl rfl (y_assignV rfl rfl) ?_
 refine al_nil ?_
 refine qt_normal ?_
 refine ac_seq ?_
 refine ac_region ?_
 refine al_y rfl rfl (y_moveP rfl rfl) ?_
 refine al_y rfl rfl (y_moveP rfl rfl) ?_
 refine al_y rfl rfl (y_callF (av := [_, _]) rfl ⟨rfl, rfl, trivial⟩ (f165 l h f fs cs hl hf)) ?_
 refine al_y rfl rfl (y_geq rfl rfl rfl) ?_
 refine al_y rfl rfl (y_assignV rfl rfl) ?_
 refine al_nil ?_
 refine qt_normal ?_
 refine ac_ret ?_
 exact ⟨.inr rfl, AVle.of (by rw [← ixF_any h l])⟩

theorem f135 (c : Cod) (l : List (List UInt8)) (hl : l.length ≤ 1000) (hc : c.fields.length ≤ 1000) : ACall Tryz.prog G 135 [eStrs l, .ptr (eCod c)] (.v (.bool (!copB c l))) := by
 refine acall_of Tryz.func135 rfl (by kernel_rfl) rfl ?_
 refine ac_seq ?_
 refine ac_region ?_
 refine al_y rfl rfl (y_assignV rfl rfl) ?_
 refine al_nil ?_
 refine qt_normal ?_
 refine ac_seq ?_
 refine ac_region ?_
 refine al_y rfl rfl (y_loadN rfl rfl ty25 (by exact Nat.le_of_ble_eq_true rfl)) ?_
 refine al_y rfl rfl (y_moveP rfl rfl) ?_
 refine al_y rfl rfl (y_callF (av := [_, _]) rfl ⟨rfl, rfl, trivial⟩ (f118 c l hl hc)) ?_
 refine al_y rfl rfl (y_not rfl rfl) ?_
 refine al_y rfl rfl (y_assignV rfl rfl) ?_
 refine al_nil ?_
 refine qt_normal ?_
 refine ac_ret ?_
 exact ⟨.inr rfl, AVle.refl _⟩

def askB (c : Cod) (l : List (List (List UInt8))) : Bool := codB c && decide (0 < l.length) && l.all (copB c)
def askE (c : Cod) (l : List (List (List UInt8))) : Int := if 3 < l.length then 3 else if askB c l then 0 else 2
theorem askB_iff {c : Cod} {l : List (List (List UInt8))} : askB c l = true ↔ codB c = true ∧ 0 < l.length ∧ ∀ g ∈ l, copB c g = true := by
  simp [askB, and_assoc]
theorem askE_0 {c : Cod} {l : List (List (List UInt8))} (h : askE c l = 0) : codB c = true ∧ l.length ≤ 3 ∧ 0 < l.length ∧ ∀ g ∈ l, copB c g = true := by
  unfold askE at h
  by_cases h3 : 3 < l.length
  · rw [if_pos h3] at h; cases h
  · rw [if_neg h3] at h
    cases hb : askB c l with
    | false => rw [hb] at h; cases h
    | true => have := askB_iff.1 hb; exact ⟨this.1, by omega, this.2⟩
theorem any_not_all {α : Type} (l : List α) (p : α → Bool) : (l.any fun x => !p x) = !l.all p := by
  induction l with
  | nil => rfl
  | cons a l ih => simp only [List.any_cons, List.all_cons, ih]; cases p a <;> simp
def fndE (c : Cod) (l : List (List (List UInt8))) : Int := if askE c l = 0 then (if msgs c l = [] then 5 else 0) else askE c l
def fndL (c : Cod) (l : List (List (List UInt8))) : List (List Int) := if askE c l = 0 then msgs c l else []
theorem f95_long (c : Cod) (l : List (List (List UInt8))) (hc : c.fields.length ≤ 1000 ∧ c.turns.length ≤ 1000) (hl : l.length ≤ 1000) (hgl : ∀ g ∈ l, g.length ≤ 1000) (h3 : 3 < l.length) : ACall Tryz.prog G 95 [.agg (eCod c), eCps l] (.tup [.agg [.top, .top, .top, .top], ei 3]) := by
 refine acall_of Tryz.func95 rfl (by kernel_rfl) rfl ?_
 refine ac_seq ?_
 refine ac_region ?_
 refine al_y rfl rfl (y_box rfl (cE_agg rfl)) ?_
 refine al_m rfl (m_alloc rfl rfl zv134 rfl rfl) ?_
 refine al_y rfl rfl (y_assignV rfl rfl) ?_
 refine al_nil ?_
 refine qt_normal ?_
 refine ac_seq ?_
 refine ac_seq ?_
 refine ac_region ?_
 refine al_y rfl rfl (y_moveP rfl rfl) ?_
 refine al_y rfl rfl (y_len rfl rfl rfl Tryz.underlying26) ?_
 refine al_y rfl rfl (y_gtr rfl rfl rfl) ?_
 refine al_nil ?_
 refine qt_normal ?_
 refine ac_cond rfl (fun h0 => ?_) (fun h0 => ?_)
 ·
  refine ac_seq ?_
  refine ac_region ?_
  refine al_y rfl rfl (y_build (cs := [_, _, _, _]) rfl st134 rfl rfl (by rfl) (by simp [ofV, eInts, eCps, eStrs])) ?_
  refine al_m rfl (m_store rfl rfl rfl rfl rfl rfl (cE_agg rfl) ty134 (by rfl) (by exact Nat.le_of_ble_eq_true rfl)) ?_
  refine al_y rfl rfl (y_assignV rfl rfl) ?_
  refine al_nil ?_
  refine qt_normal ?_
  refine ac_ret ?_
  refine qt_ret ?_
  exact ⟨.inr rfl, ⟨_, rfl, ⟨_, _, rfl, (res_cell rfl rfl rfl rfl ty134 rfl ⟨_, _, rfl, AVle.top _, ⟨_, _, rfl, AVle.top _, ⟨_, _, rfl, AVle.top _, ⟨_, _, rfl, AVle.top _, rfl⟩⟩⟩⟩), ⟨_, _, rfl, AVle.refl _, rfl⟩⟩⟩⟩
 ·
  exfalso; simp [eCps] at h0; omega

theorem f95_bad (c : Cod) (l : List (List (List UInt8))) (hc : c.fields.length ≤ 1000 ∧ c.turns.length ≤ 1000) (hl : l.length ≤ 1000) (hgl : ∀ g ∈ l, g.length ≤ 1000) (h3 : l.length ≤ 3) (hb : askB c l = false) : ACall Tryz.prog G 95 [.agg (eCod c), eCps l] (.tup [.agg [.top, .top, .top, .top], ei 2]) := by
 refine acall_of Tryz.func95 rfl (by kernel_rfl) rfl ?_
 refine ac_seq ?_
 refine ac_region ?_
 refine al_y rfl rfl (y_box rfl (cE_agg rfl)) ?_
 refine al_m rfl (m_alloc rfl rfl zv134 rfl rfl) ?_
 refine al_y rfl rfl (y_assignV rfl rfl) ?_
 refine al_nil ?_
 refine qt_normal ?_
 refine ac_seq ?_
 refine ac_seq ?_
 refine ac_region ?_
 refine al_y rfl rfl (y_moveP rfl rfl) ?_
 refine al_y rfl rfl (y_len rfl rfl rfl Tryz.underlying26) ?_
 refine al_y rfl rfl (y_gtr rfl rfl rfl) ?_
 refine al_nil ?_
 refine qt_normal ?_
 refine ac_cond rfl (fun h0 => ?_) (fun h0 => ?_)
 ·
  exfalso; simp [eCps] at h0; omega
 ·
  refine ac_skip ?_
  refine qt_normal ?_
  refine ac_seq ?_
  refine ac_seq ?_
  refine ac_region ?_
  refine al_y rfl rfl (y_loadN rfl rfl ty25 (by exact Nat.le_of_ble_eq_true rfl)) ?_
  refine al_y rfl rfl (y_callF (av := [_]) rfl ⟨rfl, trivial⟩ (f116 c hc)) ?_
  refine al_y rfl rfl (y_not rfl rfl) ?_
  refine al_y rfl rfl (y_moveV rfl rfl) ?_
  refine al_maybe rfl rfl rfl (fun hg => y_moveP rfl rfl) ?_
  refine al_maybe rfl rfl rfl (fun hg => y_len rfl rfl (if_pos hg) Tryz.underlying26) ?_
  refine al_maybe rfl rfl rfl (fun hg => y_eql rfl (if_pos hg) rfl) ?_
  refine al_y rfl rfl (y_or rfl rfl rfl rfl) ?_
  refine al_y rfl rfl (y_moveV rfl rfl) ?_
  refine al_maybe rfl rfl rfl (fun hg => y_moveP rfl rfl) ?_
  refine al_maybe rfl rfl rfl (fun hg => y_makeFunc (fs := []) (cs := [_]) rfl rfl rfl) ?_
  refine al_maybe rfl rfl rfl (fun hg => y_callF (av := [_, _]) rfl ⟨((if_pos hg)), ((if_pos hg)), trivial⟩ (f134 l (fun g => !copB c g) 135 [] [.ptr (eCod c)] hl (fun g hgm => f135 c g (hgl g hgm) hc.1))) ?_
  refine al_y rfl rfl (y_or rfl rfl rfl rfl) ?_
  refine al_nil ?_
  refine qt_normal ?_
  refine ac_cond rfl (fun h1 => ?_) (fun h1 => ?_)
  ·
   refine ac_seq ?_
   refine ac_region ?_
   refine al_y rfl rfl (y_build (cs := [_, _, _, _]) rfl st134 rfl rfl (by rfl) (by simp [ofV, eInts, eCps, eStrs])) ?_
   refine al_m rfl (m_store rfl rfl rfl rfl rfl rfl (cE_agg rfl) ty134 (by rfl) (by exact Nat.le_of_ble_eq_true rfl)) ?_
   refine al_y rfl rfl (y_assignV rfl rfl) ?_
   refine al_nil ?_
   refine qt_normal ?_
   refine ac_ret ?_
   refine qt_ret ?_
   exact ⟨.inr rfl, ⟨_, rfl, ⟨_, _, rfl, (res_cell rfl rfl rfl rfl ty134 rfl ⟨_, _, rfl, AVle.top _, ⟨_, _, rfl, AVle.top _, ⟨_, _, rfl, AVle.top _, ⟨_, _, rfl, AVle.top _, rfl⟩⟩⟩⟩), ⟨_, _, rfl, AVle.refl _, rfl⟩⟩⟩⟩
  ·
   exfalso
   have hq : askB c l = true := by
    simp [eCps, any_not_all] at h1
    rw [askB_iff]
    refine ⟨h1.1.1, ?_, h1.2⟩
    cases l with
    | nil => simp at h1
    | cons a t => simp
   rw [hb] at hq
   cases hq

theorem f95_ok (c : Cod) (l : List (List (List UInt8))) (hc : c.fields.length ≤ 1000 ∧ c.turns.length ≤ 1000) (hl : l.length ≤ 1000) (hgl : ∀ g ∈ l, g.length ≤ 1000) (h3 : l.length ≤ 3) (hb : askB c l = true) : ACall Tryz.prog G 95 [.agg (eCod c), eCps l] (.tup [.agg (eRec c l), ei 0]) := by
 refine acall_of Tryz.func95 rfl (by kernel_rfl) rfl ?_
 refine ac_seq ?_
 refine ac_region ?_
 refine al_y rfl rfl (y_box rfl (cE_agg rfl)) ?_
 refine al_m rfl (m_alloc rfl rfl zv134 rfl rfl) ?_
 refine al_y rfl rfl (y_assignV rfl rfl) ?_
 refine al_nil ?_
 refine qt_normal ?_
 refine ac_seq ?_
 refine ac_seq ?_
 refine ac_region ?_
 refine al_y rfl rfl (y_moveP rfl rfl) ?_
 refine al_y rfl rfl (y_len rfl rfl rfl Tryz.underlying26) ?_
 refine al_y rfl rfl (y_gtr rfl rfl rfl) ?_
 refine al_nil ?_
 refine qt_normal ?_
 refine ac_cond rfl (fun h0 => ?_) (fun h0 => ?_)
 ·
  exfalso; simp [eCps] at h0; omega
 ·
  refine ac_skip ?_
  refine qt_normal ?_
  refine ac_seq ?_
  refine ac_seq ?_
  refine ac_region ?_
  refine al_y rfl rfl (y_loadN rfl rfl ty25 (by exact Nat.le_of_ble_eq_true rfl)) ?_
  refine al_y rfl rfl (y_callF (av := [_]) rfl ⟨rfl, trivial⟩ (f116 c hc)) ?_
  refine al_y rfl rfl (y_not rfl rfl) ?_
  refine al_y rfl rfl (y_moveV rfl rfl) ?_
  refine al_maybe rfl rfl rfl (fun hg => y_moveP rfl rfl) ?_
  refine al_maybe rfl rfl rfl (fun hg => y_len rfl rfl (if_pos hg) Tryz.underlying26) ?_
  refine al_maybe rfl rfl rfl (fun hg => y_eql rfl (if_pos hg) rfl) ?_
  refine al_y rfl rfl (y_or rfl rfl rfl rfl) ?_
  refine al_y rfl rfl (y_moveV rfl rfl) ?_
  refine al_maybe rfl rfl rfl (fun hg => y_moveP rfl rfl) ?_
  refine al_maybe rfl rfl rfl (fun hg => y_makeFunc (fs := []) (cs := [_]) rfl rfl rfl) ?_
  refine al_maybe rfl rfl rfl (fun hg => y_callF (av := [_, _]) rfl ⟨((if_pos hg)), ((if_pos hg)), trivial⟩ (f134 l (fun g => !copB c g) 135 [] [.ptr (eCod c)] hl (fun g hgm => f135 c g (hgl g hgm) hc.1))) ?_
  refine al_y rfl rfl (y_or rfl rfl rfl rfl) ?_
  refine al_nil ?_
  refine qt_normal ?_
  refine ac_cond rfl (fun h1 => ?_) (fun h1 => ?_)
  ·
   exfalso
   have hq := askB_iff.1 hb
   have hz : l ≠ [] := fun e => by rw [e] at hq; simp at hq
   simp [eCps, any_not_all, hq.1, hz] at h1
   obtain ⟨g, hgm, hgc⟩ := h1
   rw [hq.2.2 g hgm] at hgc
   cases hgc
  ·
   refine ac_skip ?_
   refine qt_normal ?_
   refine ac_seq ?_
   refine ac_region ?_
   refine al_y rfl rfl (y_loadN rfl rfl ty25 (by exact Nat.le_of_ble_eq_true rfl)) ?_
   refine al_y rfl rfl (y_moveP rfl rfl) ?_
   refine al_y rfl rfl (y_build (cs := [_, _, _, _]) rfl st134 rfl ⟨_, _, rfl, (cE_agg rfl), ⟨_, _, rfl, (cE_sl rfl), rfl⟩⟩ (by rfl) (by simp [ofV, eInts, eCps, eStrs])) ?_
   refine al_m rfl (m_store rfl rfl rfl rfl rfl rfl (cE_agg rfl) ty134 (by rfl) (by exact Nat.le_of_ble_eq_true rfl)) ?_
   refine al_y rfl rfl (y_assignV rfl rfl) ?_
   refine al_nil ?_
   refine qt_normal ?_
   refine ac_ret ?_
   exact ⟨.inr rfl, ⟨_, rfl, ⟨_, _, rfl, (res_cell rfl rfl rfl rfl ty134 rfl ⟨_, _, rfl, AVle.refl _, ⟨_, _, rfl, AVle.refl _, ⟨_, _, rfl, AVle.refl _, ⟨_, _, rfl, AVle.refl _, rfl⟩⟩⟩⟩), ⟨_, _, rfl, AVle.refl _, rfl⟩⟩⟩⟩

theorem f85_long (c : Cod) (l : List (List (List UInt8))) (hc : c.fields.length ≤ 1000 ∧ c.turns.length ≤ 1000) (hl : l.length ≤ 1000) (hgl : ∀ g ∈ l, g.length ≤ 1000) (h3 : 3 < l.length) : ACall Tryz.prog G 85 [.agg (eCod c), eCps l] (.tup [.sl [], ei 3]) := by
 refine acall_of Tryz.func85 rfl (by kernel_rfl) rfl ?_
 refine ac_seq ?_
 refine ac_region ?_
 refine al_y rfl rfl (y_box rfl (cE_agg rfl)) ?_
 refine al_y rfl rfl (y_assignV rfl rfl) ?_
 refine al_y rfl rfl (y_assignV rfl rfl) ?_
 refine al_nil ?_
 refine qt_normal ?_
 refine ac_seq ?_
 refine ac_region ?_
 refine al_y rfl rfl (y_loadN rfl rfl ty25 (by exact Nat.le_of_ble_eq_true rfl)) ?_
 refine al_y rfl rfl (y_moveP rfl rfl) ?_
 refine al_y rfl rfl (y_callF (av := [_, _]) rfl ⟨rfl, rfl, trivial⟩ (f95_long c l hc hl hgl h3)) ?_
 refine al_y rfl rfl (y_moveP rfl rfl) ?_
 refine al_y rfl rfl (y_extract rfl rfl rfl) ?_
 refine al_y rfl rfl (y_extract rfl rfl rfl) ?_
 refine al_pair  rfl rfl rfl rfl rfl rfl rfl zv134 ty134 rfl (by rfl) (cE_agg rfl) rfl ?_
 refine al_y rfl rfl (y_assignV rfl rfl) ?_
 refine al_nil ?_
 refine qt_normal ?_
 refine ac_seq ?_
 refine ac_seq ?_
 refine ac_region ?_
 refine al_y rfl rfl (y_moveV rfl rfl) ?_
 refine al_y rfl rfl (y_neq rfl rfl rfl) ?_
 refine al_nil ?_
 refine qt_normal ?_
 refine ac_cond rfl (fun h0 => ?_) (fun h0 => ?_)
 ·
  refine ac_seq ?_
  refine ac_region ?_
  refine al_y rfl rfl (y_moveV rfl rfl) ?_
  refine al_y rfl rfl (y_assignV rfl rfl) ?_
  refine al_y rfl rfl (y_assignV rfl rfl) ?_
  refine al_nil ?_
  refine qt_normal ?_
  refine ac_ret ?_
  refine qt_ret ?_
  exact ⟨.inr rfl, ⟨_, rfl, ⟨_, _, rfl, AVle.nil, ⟨_, _, rfl, AVle.refl _, rfl⟩⟩⟩⟩
 ·
  exfalso; simp at h0

theorem f85_bad (c : Cod) (l : List (List (List UInt8))) (hc : c.fields.length ≤ 1000 ∧ c.turns.length ≤ 1000) (hl : l.length ≤ 1000) (hgl : ∀ g ∈ l, g.length ≤ 1000) (h3 : l.length ≤ 3) (hb : askB c l = false) : ACall Tryz.prog G 85 [.agg (eCod c), eCps l] (.tup [.sl [], ei 2]) := by
 refine acall_of Tryz.func85 rfl (by kernel_rfl) rfl ?_
 refine ac_seq ?_
 refine ac_region ?_
 refine al_y rfl rfl (y_box rfl (cE_agg rfl)) ?_
 refine al_y rfl rfl (y_assignV rfl rfl) ?_
 refine al_y rfl rfl (y_assignV rfl rfl) ?_
 refine al_nil ?_
 refine qt_normal ?_
 refine ac_seq ?_
 refine ac_region ?_
 refine al_y rfl rfl (y_loadN rfl rfl ty25 (by exact Nat.le_of_ble_eq_true rfl)) ?_
 refine al_y rfl rfl (y_moveP rfl rfl) ?_
 refine al_y rfl rfl (y_callF (av := [_, _]) rfl ⟨rfl, rfl, trivial⟩ (f95_bad c l hc hl hgl h3 hb)) ?_
 refine al_y rfl rfl (y_moveP rfl rfl) ?_
 refine al_y rfl rfl (y_extract rfl rfl rfl) ?_
 refine al_y rfl rfl (y_extract rfl rfl rfl) ?_
 refine al_pair  rfl rfl rfl rfl rfl rfl rfl zv134 ty134 rfl (by rfl) (cE_agg rfl) rfl ?_
 refine al_y rfl rfl (y_assignV rfl rfl) ?_
 refine al_nil ?_
 refine qt_normal ?_
 refine ac_seq ?_
 refine ac_seq ?_
 refine ac_region ?_
 refine al_y rfl rfl (y_moveV rfl rfl) ?_
 refine al_y rfl rfl (y_neq rfl rfl rfl) ?_
 refine al_nil ?_
 refine qt_normal ?_
 refine ac_cond rfl (fun h0 => ?_) (fun h0 => ?_)
 ·
  refine ac_seq ?_
  refine ac_region ?_
  refine al_y rfl rfl (y_moveV rfl rfl) ?_
  refine al_y rfl rfl (y_assignV rfl rfl) ?_
  refine al_y rfl rfl (y_assignV rfl rfl) ?_
  refine al_nil ?_
  refine qt_normal ?_
  refine ac_ret ?_
  refine qt_ret ?_
  exact ⟨.inr rfl, ⟨_, rfl, ⟨_, _, rfl, AVle.nil, ⟨_, _, rfl, AVle.refl _, rfl⟩⟩⟩⟩
 ·
  exfalso; simp at h0

theorem f85_none (c : Cod) (l : List (List (List UInt8))) (hc : c.fields.length ≤ 1000 ∧ c.turns.length ≤ 1000) (hl : l.length ≤ 1000) (hgl : ∀ g ∈ l, g.length ≤ 1000) (h3 : l.length ≤ 3) (hb : askB c l = true) (hm : msgs c l = []) : ACall Tryz.prog G 85 [.agg (eCod c), eCps l] (.tup [.sl [], ei 5]) := by
 have hq := askB_iff.1 hb
 refine acall_of Tryz.func85 rfl (by kernel_rfl) rfl ?_
 refine ac_seq ?_
 refine ac_region ?_
 refine al_y rfl rfl (y_box rfl (cE_agg rfl)) ?_
 refine al_y rfl rfl (y_assignV rfl rfl) ?_
 refine al_y rfl rfl (y_assignV rfl rfl) ?_
 refine al_nil ?_
 refine qt_normal ?_
 refine ac_seq ?_
 refine ac_region ?_
 refine al_y rfl rfl (y_loadN rfl rfl ty25 (by exact Nat.le_of_ble_eq_true rfl)) ?_
 refine al_y rfl rfl (y_moveP rfl rfl) ?_
 refine al_y rfl rfl (y_callF (av := [_, _]) rfl ⟨rfl, rfl, trivial⟩ (f95_ok c l hc hl hgl h3 hb)) ?_
 refine al_y rfl rfl (y_moveP rfl rfl) ?_
 refine al_y rfl rfl (y_extract rfl rfl rfl) ?_
 refine al_y rfl rfl (y_extract rfl rfl rfl) ?_
 refine al_pair  rfl rfl rfl rfl rfl rfl rfl zv134 ty134 rfl (by rfl) (cE_agg rfl) rfl ?_
 refine al_y rfl rfl (y_assignV rfl rfl) ?_
 refine al_nil ?_
 refine qt_normal ?_
 refine ac_seq ?_
 refine ac_seq ?_
 refine ac_region ?_
 refine al_y rfl rfl (y_moveV rfl rfl) ?_
 refine al_y rfl rfl (y_neq rfl rfl rfl) ?_
 refine al_nil ?_
 refine qt_normal ?_
 refine ac_cond rfl (fun h0 => ?_) (fun h0 => ?_)
 ·
  exfalso; simp at h0
 ·
  refine ac_skip ?_
  refine qt_normal ?_
  refine ac_seq ?_
  refine ac_region ?_
  refine al_y rfl rfl (y_loadN rfl rfl ty134 (by exact Nat.le_of_ble_eq_true rfl)) ?_
  refine al_y rfl rfl (y_callF (av := [_]) rfl ⟨rfl, trivial⟩ (f96 c l hq.1 h3 hq.2.1 hq.2.2)) ?_
  refine al_y rfl rfl (y_assignP rfl rfl) ?_
  refine al_nil ?_
  refine qt_normal ?_
  refine ac_seq ?_
  refine ac_seq ?_
  refine ac_region ?_
  refine al_y rfl rfl (y_moveP rfl rfl) ?_
  refine al_y rfl rfl (y_len rfl rfl rfl Tryz.underlying30) ?_
  refine al_y rfl rfl (y_eql rfl rfl rfl) ?_
  refine al_nil ?_
  refine qt_normal ?_
  refine ac_cond rfl (fun h1 => ?_) (fun h1 => ?_)
  ·
   refine ac_seq ?_
   refine ac_region ?_
   refine al_y rfl rfl (y_assignV rfl rfl) ?_
   refine al_y rfl rfl (y_assignV rfl rfl) ?_
   refine al_nil ?_
   refine qt_normal ?_
   refine ac_ret ?_
   refine qt_ret ?_
   exact ⟨.inr rfl, ⟨_, rfl, ⟨_, _, rfl, AVle.nil, ⟨_, _, rfl, AVle.refl _, rfl⟩⟩⟩⟩
  ·
   exfalso; simp [hm] at h1

theorem f85_some (c : Cod) (l : List (List (List UInt8))) (hc : c.fields.length ≤ 1000 ∧ c.turns.length ≤ 1000) (hl : l.length ≤ 1000) (hgl : ∀ g ∈ l, g.length ≤ 1000) (h3 : l.length ≤ 3) (hb : askB c l = true) (hm : msgs c l ≠ []) : ACall Tryz.prog G 85 [.agg (eCod c), eCps l] (.tup [eIntss (msgs c l), ei 0]) := by
 have hq := askB_iff.1 hb
 refine acall_of Tryz.func85 rfl (by kernel_rfl) rfl ?_
 refine ac_seq ?_
 refine ac_region ?_
 refine al_y rfl rfl (y_box rfl (cE_agg rfl)) ?_
 refine al_y rfl rfl (y_assignV rfl rfl) ?_
 refine al_y rfl rfl (y_assignV rfl rfl) ?_
 refine al_nil ?_
 refine qt_normal ?_
 refine ac_seq ?_
 refine ac_region ?_
 refine al_y rfl rfl (y_loadN rfl rfl ty25 (by exact Nat.le_of_ble_eq_true rfl)) ?_
 refine al_y rfl rfl (y_moveP rfl rfl) ?_
 refine al_y rfl rfl (y_callF (av := [_, _]) rfl ⟨rfl, rfl, trivial⟩ (f95_ok c l hc hl hgl h3 hb)) ?_
 refine al_y rfl rfl (y_moveP rfl rfl) ?_
 refine al_y rfl rfl (y_extract rfl rfl rfl) ?_
 refine al_y rfl rfl (y_extract rfl rfl rfl) ?_
 refine al_pair  rfl rfl rfl rfl rfl rfl rfl zv134 ty134 rfl (by rfl) (cE_agg rfl) rfl ?_
 refine al_y rfl rfl (y_assignV rfl rfl) ?_
 refine al_nil ?_
 refine qt_normal ?_
 refine ac_seq ?_
 refine ac_seq ?_
 refine ac_region ?_
 refine al_y rfl rfl (y_moveV rfl rfl) ?_
 refine al_y rfl rfl (y_neq rfl rfl rfl) ?_
 refine al_nil ?_
 refine qt_normal ?_
 refine ac_cond rfl (fun h0 => ?_) (fun h0 => ?_)
 ·
  exfalso; simp at h0
 ·
  refine ac_skip ?_
  refine qt_normal ?_
  refine ac_seq ?_
  refine ac_region ?_
  refine al_y rfl rfl (y_loadN rfl rfl ty134 (by exact Nat.le_of_ble_eq_true rfl)) ?_
  refine al_y rfl rfl (y_callF (av := [_]) rfl ⟨rfl, trivial⟩ (f96 c l hq.1 h3 hq.2.1 hq.2.2)) ?_
  refine al_y rfl rfl (y_assignP rfl rfl) ?_
  refine al_nil ?_
  refine qt_normal ?_
  refine ac_seq ?_
  refine ac_seq ?_
  refine ac_region ?_
  refine al_y rfl rfl (y_moveP rfl rfl) ?_
  refine al_y rfl rfl (y_len rfl rfl rfl Tryz.underlying30) ?_
  refine al_y rfl rfl (y_eql rfl rfl rfl) ?_
  refine al_nil ?_
  refine qt_normal ?_
  refine ac_cond rfl (fun h1 => ?_) (fun h1 => ?_)
  ·
   exfalso; simp at h1; exact hm h1
  ·
   refine ac_skip ?_
   refine qt_normal ?_
   refine ac_seq ?_
   refine ac_region ?_
   refine al_y rfl rfl (y_moveP rfl rfl) ?_
   refine al_y rfl rfl (y_assignP rfl rfl) ?_
   refine al_y rfl rfl (y_assignV rfl rfl) ?_
   refine al_nil ?_
   refine qt_normal ?_
   refine ac_ret ?_
   exact ⟨.inr rfl, ⟨_, rfl, ⟨_, _, rfl, AVle.refl _, ⟨_, _, rfl, AVle.refl _, rfl⟩⟩⟩⟩

theorem f85 (c : Cod) (l : List (List (List UInt8))) (hc : c.fields.length ≤ 1000 ∧ c.turns.length ≤ 1000) (hl : l.length ≤ 1000) (hgl : ∀ g ∈ l, g.length ≤ 1000) : ACall Tryz.prog G 85 [.agg (eCod c), eCps l] (.tup [eIntss (fndL c l), ei (fndE c l)]) := by
  by_cases h3 : 3 < l.length
  · have e : askE c l = 3 := by unfold askE; rw [if_pos h3]
    have := f85_long (G := G) c l hc hl hgl h3
    unfold fndE fndL
    rw [e]
    exact this
  · cases hb : askB c l with
    | false =>
      have e : askE c l = 2 := by unfold askE; rw [if_neg h3, hb]; rfl
      have := f85_bad (G := G) c l hc hl hgl (by omega) hb
      unfold fndE fndL
      rw [e]
      exact this
    | true =>
      have e : askE c l = 0 := by unfold askE; rw [if_neg h3, hb]; rfl
      unfold fndE fndL
      rw [if_pos e, if_pos e]
      by_cases hm : msgs c l = []
      · rw [if_pos hm, hm]
        exact f85_none c l hc hl hgl (by omega) hb hm
      · rw [if_neg hm]
        exact f85_some c l hc hl hgl (by omega) hb hm

theorem f24 (c : Cod) (l : List (List (List UInt8))) (hc : c.fields.length ≤ 1000 ∧ c.turns.length ≤ 1000) (hl : l.length ≤ 1000) (hgl : ∀ g ∈ l, g.length ≤ 1000) : ACall Tryz.prog G 24 [.agg (eCod c), eCps l] (.tup [eIntss (fndL c l), ei (fndE c l)]) := by
 refine acall_of Tryz.func24 rfl (by kernel_rfl) rfl ?_
 refine ac_seq ?_
 refine ac_region ?_
 refine al_y rfl rfl (y_box rfl (cE_agg rfl)) ?_
 refine al_y rfl rfl (y_assignV rfl rfl) ?_
 refine al_y rfl rfl (y_assignV rfl rfl) ?_
 refine al_nil ?_
 refine qt_normal ?_
 refine ac_seq ?_
 refine ac_region ?_
 refine al_y rfl rfl (y_loadN rfl rfl ty25 (by exact Nat.le_of_ble_eq_true rfl)) ?_
 refine al_y rfl rfl (y_moveP rfl rfl) ?_
 refine al_y rfl rfl (y_callF (av := [_, _]) rfl ⟨rfl, rfl, trivial⟩ (f85 c l hc hl hgl)) ?_
 refine al_y rfl rfl (y_extract rfl rfl rfl) ?_
 refine al_y rfl rfl (y_extract rfl rfl rfl) ?_
 refine al_y rfl rfl (y_assignP rfl rfl) ?_
 refine al_y rfl rfl (y_assignV rfl rfl) ?_
 refine al_nil ?_
 refine qt_normal ?_
 refine ac_ret ?_
 exact ⟨.inr rfl, ⟨_, rfl, ⟨_, _, rfl, AVle.refl _, ⟨_, _, rfl, AVle.refl _, rfl⟩⟩⟩⟩
end Go.Av
end

section
namespace Go.Av
open Go.Proofs
set_option maxRecDepth 100000
set_option maxHeartbeats 1000000
set_option linter.unusedSimpArgs false
variable {G : Glob}
theorem slc30 : slcIs Tryz.prog 30 1 = true := by kernel_rfl
def fewB (l : List (List (List UInt8))) : Bool := decide (l.length ≤ 6) && l.all brfB
theorem fewB_sz {l : List (List (List UInt8))} (h : fewB l = true) : l.length ≤ 1000 ∧ ∀ g ∈ l, g.length ≤ 1000 := by
  simp only [fewB, Bool.and_eq_true, decide_eq_true_eq, List.all_eq_true] at h
  refine ⟨by omega, fun g hg => ?_⟩
  have := h.2 g hg
  simp only [brfB, Bool.and_eq_true, decide_eq_true_eq] at this
  omega
theorem shortB_sz {c : Cod} (h : shortB c = true) : c.fields.length ≤ 1000 ∧ c.turns.length ≤ 1000 := by
  simp only [shortB, Bool.and_eq_true, decide_eq_true_eq] at h
  omega
theorem askB_alt (c : Cod) (l : List (List (List UInt8))) : askB c l = (codB c && (l.all (copB c) && decide (0 < l.length))) := by
  unfold askB; cases codB c <;> cases l.all (copB c) <;> simp
theorem askB_not {c : Cod} {l : List (List (List UInt8))} (h : (!codB c || !(l.all (copB c) && decide (0 < l.length))) = true) : askB c l = false := by
  rw [askB_alt]; revert h; cases codB c <;> cases (l.all (copB c) && decide (0 < l.length)) <;> simp
theorem askB_yes {c : Cod} {l : List (List (List UInt8))} (h : (!codB c || !(l.all (copB c) && decide (0 < l.length))) = false) : askB c l = true := by
  rw [askB_alt]; revert h; cases codB c <;> cases (l.all (copB c) && decide (0 < l.length)) <;> simp
theorem ints_at {L : List (List Int)} {k : Nat} (h : k < L.length) : (L.map fun m => [eInts m])[k]? = some [eInts L[k]] := by simp [h]
theorem ints_len {L : List (List Int)} : ∀ q ∈ L.map (fun m => [eInts m]), q.length = 1 := by simp

theorem f22 (l : List (List (List UInt8))) : ACall Tryz.prog G 22 [eCps l] (.v (.bool (fewB l))) := by
 refine acall_of Tryz.func22 rfl (by kernel_rfl) rfl ?_
 refine ac_seq ?_
 refine ac_region ?_
 refine al_y rfl rfl (y_assignV rfl rfl) ?_
 refine al_nil ?_
 refine qt_normal ?_
 refine ac_seq ?_
 refine ac_seq ?_
 refine ac_region ?_
 refine al_y rfl rfl (y_assignV rfl rfl) ?_
 refine al_nil ?_
 refine qt_normal ?_
 refine ac_block ?_
 refine ac_loop (ι := { q : Nat // q ≤ l.length ∧ q ≤ 6 ∧ (l.take q).all brfB = true }) (fun q => ⟨Tryz.f22.ntmps, frL [(0, .pub (eCps l)), (3, I (q.1 : Int))], []⟩) (fun q => l.length - q.1) (⟨0, by simp⟩) ?_ ?_
 ·
  exact weak_frM _ ⟨rfl, rfl, trivial⟩ (rfl)
 ·
  rintro ⟨q, hq⟩
  dsimp only
  refine ac_seq ?_
  refine ac_seq ?_
  refine ac_region ?_
  refine al_y rfl rfl (y_moveV rfl rfl) ?_
  refine al_y rfl rfl (y_moveP rfl rfl) ?_
  refine al_y rfl rfl (y_len rfl rfl rfl Tryz.underlying26) ?_
  refine al_y rfl rfl (y_lss rfl rfl rfl) ?_
  refine al_y rfl rfl (y_moveV rfl rfl) ?_
  refine al_maybe rfl rfl rfl (fun hg => y_moveV rfl rfl) ?_
  refine al_maybe rfl rfl rfl (fun hg => y_lss rfl (if_pos hg) rfl) ?_
  refine al_y rfl rfl (y_and rfl rfl rfl rfl) ?_
  refine al_nil ?_
  refine qt_normal ?_
  refine ac_cond rfl (fun h0 => ?_) (fun h0 => ?_)
  ·
   have hlt : q < l.length := by simp [eCps] at h0; omega
   have hl6 : q < 6 := by simp [eCps] at h0; omega
   refine ac_skip ?_
   refine qt_normal ?_
   refine ac_seq ?_
   refine ac_block ?_
   refine ac_seq ?_
   refine ac_region ?_
   refine al_y rfl rfl (y_moveP rfl rfl) ?_
   refine al_y rfl rfl (y_moveV rfl rfl) ?_
   refine al_y rfl rfl (y_indexAddr rfl rfl rfl slc26 (by omega) (cps_at hlt) cps_len) ?_
   refine al_y rfl rfl (y_load1 rfl rfl rfl ty34) ?_
   refine al_y rfl rfl (y_callF (av := [_]) rfl ⟨rfl, trivial⟩ (f65 l[q])) ?_
   refine al_y rfl rfl (y_not rfl rfl) ?_
   refine al_nil ?_
   refine qt_normal ?_
   refine ac_cond rfl (fun h1 => ?_) (fun h1 => ?_)
   ·
    have hb : brfB l[q] = false := by simpa using h1
    refine ac_seq ?_
    refine ac_region ?_
    refine al_y rfl rfl (y_assignV rfl rfl) ?_
    refine al_nil ?_
    refine qt_normal ?_
    refine ac_ret ?_
    refine qb_ret ?_
    refine qt_ret ?_
    refine qt_ret ?_
    refine qb_ret ?_
    refine qt_ret ?_
    exact ⟨.inr rfl, AVle.of (by rw [fewB, all_no hlt hb, Bool.and_false])⟩
   ·
    have hb : brfB l[q] = true := by simpa using h1
    refine ac_skip ?_
    refine qb_normal ?_
    refine qt_normal ?_
    refine ac_region ?_
    refine al_y rfl rfl (y_moveV rfl rfl) ?_
    refine al_y rfl rfl (y_add rfl rfl rfl ⟨(by omega), (by omega)⟩) ?_
    refine al_y rfl rfl (y_assignV rfl rfl) ?_
    refine al_nil ?_
    exact ⟨⟨q + 1, by omega, by omega, all_take hq.2.2 hlt hb⟩, by dsimp only; omega, weak_frM _ ⟨rfl, rfl, trivial⟩ (rfl)⟩
  ·
   have hge : l.length ≤ q ∨ 6 ≤ q := by simp [eCps] at h0; omega
   refine ac_exit ?_
   refine qt_exit ?_
   refine qt_exit ?_
   refine qb_exit ?_
   refine qt_normal ?_
   refine ac_seq ?_
   refine ac_region ?_
   refine al_y rfl rfl (y_moveP rfl rfl) ?_
   refine al_y rfl rfl (y_len rfl rfl rfl Tryz.underlying26) ?_
   refine al_y rfl rfl (y_leq rfl rfl rfl) ?_
   refine al_y rfl rfl (y_assignV rfl rfl) ?_
   refine al_nil ?_
   refine qt_normal ?_
   refine ac_ret ?_
   exact ⟨.inr rfl, AVle.of (congrArg (fun x : Bool => AV.v (Value.bool x)) (by rw [Bool.eq_iff_iff]; simp only [fewB, eCps, List.length_map, Bool.and_eq_true, decide_eq_true_eq]; constructor; exact fun h => ⟨by omega, by have h3 := hq.2.2; rw [List.take_of_length_le (by omega)] at h3; exact h3⟩; exact fun h => by omega))⟩

theorem f88 (c : Cod) (l : List (List (List UInt8))) (hc : c.fields.length ≤ 1000) (hl : l.length ≤ 1000) (hgl : ∀ g ∈ l, g.length ≤ 1000) : ACall Tryz.prog G 88 [.agg (eCod c), eCps l] (.v (.bool (l.all (copB c) && decide (0 < l.length)))) := by
 refine acall_of Tryz.func88 rfl (by kernel_rfl) rfl ?_
 refine ac_seq ?_
 refine ac_region ?_
 refine al_y rfl rfl (y_box rfl (cE_agg rfl)) ?_
 refine al_y rfl rfl (y_assignV rfl rfl) ?_
 refine al_nil ?_
 refine qt_normal ?_
 refine ac_seq ?_
 refine ac_seq ?_
 refine ac_region ?_
 refine al_y rfl rfl (y_assignV rfl rfl) ?_
 refine al_nil ?_
 refine qt_normal ?_
 refine ac_block ?_
 refine ac_loop (ι := { q : Nat // q ≤ l.length ∧ (l.take q).all (copB c) = true }) (fun q => ⟨Tryz.f88.ntmps, frL [(1, .pub (eCps l)), (2, .pub (.ptr (eCod c))), (5, I (q.1 : Int))], []⟩) (fun q => l.length - q.1) (⟨0, by simp⟩) ?_ ?_
 ·
  exact weak_frM _ ⟨rfl, rfl, rfl, trivial⟩ (rfl)
 ·
  rintro ⟨q, hq⟩
  dsimp only
  refine ac_seq ?_
  refine ac_seq ?_
  refine ac_region ?_
  refine al_y rfl rfl (y_moveV rfl rfl) ?_
  refine al_y rfl rfl (y_moveP rfl rfl) ?_
  refine al_y rfl rfl (y_len rfl rfl rfl Tryz.underlying26) ?_
  refine al_y rfl rfl (y_lss rfl rfl rfl) ?_
  refine al_nil ?_
  refine qt_normal ?_
  refine ac_cond rfl (fun h0 => ?_) (fun h0 => ?_)
  ·
   have hlt : q < l.length := by simpa [eCps, eIntss] using h0
   refine ac_skip ?_
   refine qt_normal ?_
   refine ac_seq ?_
   refine ac_block ?_
   refine ac_seq ?_
   refine ac_draw mixed (by kernel_rfl) rfl ?_
   refine aq_y rfl (y_loadN rfl rfl ty25 (by exact Nat.le_of_ble_eq_true rfl)) ?_
   refine aq_y rfl (y_moveP rfl rfl) ?_
   refine aq_y rfl (y_moveV rfl rfl) ?_
   refine aq_y rfl (y_indexAddr rfl rfl rfl slc26 (by omega) (cps_at hlt) cps_len) ?_
   refine aq_y rfl (y_load1 rfl rfl rfl ty34) ?_
   refine aq_y rfl (y_callF (av := [_, _]) rfl ⟨rfl, rfl, trivial⟩ (f67 c l[q] (hgl _ (List.getElem_mem hlt)) hc)) ?_
   refine aq_y rfl (y_not rfl rfl) ?_
   refine aq_nil ?_
   refine qt_normal ?_
   refine ac_cond rfl (fun h1 => ?_) (fun h1 => ?_)
   ·
    have hb : copB c l[q] = false := by simpa using h1
    refine ac_seq ?_
    refine ac_region ?_
    refine al_y rfl rfl (y_assignV rfl rfl) ?_
    refine al_nil ?_
    refine qt_normal ?_
    refine ac_ret ?_
    refine qb_ret ?_
    refine qt_ret ?_
    refine qt_ret ?_
    refine qb_ret ?_
    refine qt_ret ?_
    exact ⟨.inr rfl, AVle.of (by rw [all_no hlt hb, Bool.false_and])⟩
   ·
    have hb : copB c l[q] = true := by simpa using h1
    refine ac_skip ?_
    refine qb_normal ?_
    refine qt_normal ?_
    refine ac_region ?_
    refine al_y rfl rfl (y_moveV rfl rfl) ?_
    refine al_y rfl rfl (y_add rfl rfl rfl ⟨(by omega), (by omega)⟩) ?_
    refine al_y rfl rfl (y_assignV rfl rfl) ?_
    refine al_nil ?_
    exact ⟨⟨q + 1, by omega, all_take hq.2 hlt hb⟩, by dsimp only; omega, weak_frM _ ⟨rfl, rfl, rfl, trivial⟩ (rfl)⟩
  ·
   have hge : l.length ≤ q := by simpa [eCps, eIntss] using h0
   refine ac_exit ?_
   refine qt_exit ?_
   refine qt_exit ?_
   refine qb_exit ?_
   refine qt_normal ?_
   refine ac_seq ?_
   refine ac_region ?_
   refine al_y rfl rfl (y_moveP rfl rfl) ?_
   refine al_y rfl rfl (y_len rfl rfl rfl Tryz.underlying26) ?_
   refine al_y rfl rfl (y_gtr rfl rfl rfl) ?_
   refine al_y rfl rfl (y_assignV rfl rfl) ?_
   refine al_nil ?_
   refine qt_normal ?_
   refine ac_ret ?_
   exact ⟨.inr rfl, AVle.of (by have h3 := hq.2; rw [List.take_of_length_le (by omega)] at h3; rw [h3]; simp [eCps])⟩

theorem f26 (c : Cod) (l : List (List (List UInt8))) (hc : c.fields.length ≤ 1000 ∧ c.turns.length ≤ 1000) (hl : l.length ≤ 1000) (hgl : ∀ g ∈ l, g.length ≤ 1000) : ACall Tryz.prog G 26 [.agg (eCod c), eCps l] (ei (askE c l)) := by
 refine acall_of Tryz.func26 rfl (by kernel_rfl) rfl ?_
 refine ac_seq ?_
 refine ac_region ?_
 refine al_y rfl rfl (y_box rfl (cE_agg rfl)) ?_
 refine al_y rfl rfl (y_assignV rfl rfl) ?_
 refine al_nil ?_
 refine qt_normal ?_
 refine ac_seq ?_
 refine ac_seq ?_
 refine ac_region ?_
 refine al_y rfl rfl (y_moveP rfl rfl) ?_
 refine al_y rfl rfl (y_len rfl rfl rfl Tryz.underlying26) ?_
 refine al_y rfl rfl (y_gtr rfl rfl rfl) ?_
 refine al_nil ?_
 refine qt_normal ?_
 refine ac_cond rfl (fun h0 => ?_) (fun h0 => ?_)
 ·
  have h3 : 3 < l.length := by simp [eCps] at h0; omega
  refine ac_seq ?_
  refine ac_region ?_
  refine al_y rfl rfl (y_assignV rfl rfl) ?_
  refine al_nil ?_
  refine qt_normal ?_
  refine ac_ret ?_
  refine qt_ret ?_
  exact ⟨.inr rfl, AVle.of (by rw [askE, if_pos h3]; rfl)⟩
 ·
  have h3 : ¬ 3 < l.length := by simp [eCps] at h0; omega
  refine ac_skip ?_
  refine qt_normal ?_
  refine ac_seq ?_
  refine ac_seq ?_
  refine ac_region ?_
  refine al_y rfl rfl (y_loadN rfl rfl ty25 (by exact Nat.le_of_ble_eq_true rfl)) ?_
  refine al_y rfl rfl (y_callF (av := [_]) rfl ⟨rfl, trivial⟩ (f31 c hc)) ?_
  refine al_y rfl rfl (y_not rfl rfl) ?_
  refine al_y rfl rfl (y_moveV rfl rfl) ?_
  refine al_maybe rfl rfl rfl (fun hg => y_loadN rfl rfl ty25 (by exact Nat.le_of_ble_eq_true rfl)) ?_
  refine al_maybe rfl rfl rfl (fun hg => y_moveP rfl rfl) ?_
  refine al_maybe rfl rfl rfl (fun hg => y_callF (av := [_, _]) rfl ⟨((if_pos hg)), ((if_pos hg)), trivial⟩ (f88 c l hc.1 hl hgl)) ?_
  refine al_maybe rfl rfl rfl (fun hg => y_not rfl (if_pos hg)) ?_
  refine al_y rfl rfl (y_or rfl rfl rfl rfl) ?_
  refine al_nil ?_
  refine qt_normal ?_
  refine ac_cond rfl (fun h1 => ?_) (fun h1 => ?_)
  ·
   refine ac_seq ?_
   refine ac_region ?_
   refine al_y rfl rfl (y_assignV rfl rfl) ?_
   refine al_nil ?_
   refine qt_normal ?_
   refine ac_ret ?_
   refine qt_ret ?_
   exact ⟨.inr rfl, AVle.of (by rw [askE, if_neg h3, askB_not h1]; rfl)⟩
  ·
   refine ac_skip ?_
   refine qt_normal ?_
   refine ac_seq ?_
   refine ac_region ?_
   refine al_y rfl rfl (y_assignV rfl rfl) ?_
   refine al_nil ?_
   refine qt_normal ?_
   refine ac_ret ?_
   exact ⟨.inr rfl, AVle.of (by rw [askE, if_neg h3, askB_yes h1]; rfl)⟩

end Go.Av
end
