/- WireLooks. -/
import Derived.Test.YtaphehlgijlfeaaGreatDoorWiJ
set_option linter.unusedVariables false
set_option linter.unusedSimpArgs false
section
namespace Go.Av
open Go.Proofs
set_option maxRecDepth 100000
set_option maxHeartbeats 1000000
set_option linter.unusedSimpArgs false
variable {G : Glob}

theorem f47v (l : List Ent) (hl : l.length ≤ 1000) (hw : ∀ e ∈ l, e.word.length ≤ 9223372036854775807) {b : Bool} (h : bookB l = b) : ACall Tryz.prog G 47 [eBk l] (.v (.bool b)) := h ▸ f47 l hl hw
theorem f48v (w : List UInt8) (hl : w.length ≤ 9223372036854775807) {b : Bool} (h : ofB lokR w = b) : ACall Tryz.prog G 48 [eS w] (.v (.bool b)) := h ▸ f48 w hl
theorem f39t (a : List Int) (ha : a.length ≤ 100000) : ACall Tryz.prog G 39 [eInts a, eInts a] (.v (.bool true)) := by
  have := f39 (G := G) a a ha
  rw [decide_eq_true rfl] at this
  exact this
theorem f46z (l : List Ent) (w : List UInt8) (miss : Int) (hl : l.length ≤ 1000) (h1 : bookB l = true) (h2 : ofB lokR w = true) (h3 : inB miss 0 5 = true) (hz : lkA w miss l = []) : ACall Tryz.prog G 46 [eBk l, eS w, ei miss] (.tup [eInts (lkA w miss l), ei 5]) := by
  have := f46_ok (G := G) l w miss hl h1 h2 h3
  rw [if_pos (by rw [hz]; rfl)] at this
  exact this
theorem f46n (l : List Ent) (w : List UInt8) (miss : Int) (hl : l.length ≤ 1000) (h1 : bookB l = true) (h2 : ofB lokR w = true) (h3 : inB miss 0 5 = true) (hz : lkA w miss l ≠ []) : ACall Tryz.prog G 46 [eBk l, eS w, ei miss] (.tup [eInts (lkA w miss l), ei 0]) := by
  have := f46_ok (G := G) l w miss hl h1 h2 h3
  rw [if_neg (fun e => hz (List.eq_nil_of_length_eq_zero e))] at this
  exact this
theorem lkA_len (w : List UInt8) (miss : Int) (l : List Ent) : (lkA w miss l).length ≤ l.length := lkN_len w miss l l.length

/-- isobarlaw02.WireLooks -/
theorem f9_far (hk : KN G) (l : List Ent) (w : List UInt8) (miss : Int) (hs : ¬ (l.length ≤ 15 ∧ w.length ≤ 9)) : ACall Tryz.prog G 9 [eBk l, eS w, ei miss] (.v (.bool true)) := by
  refine acall_of Tryz.func9 rfl (by kernel_rfl) rfl ?_
  refine ac_seq ?_
  refine ac_region ?_
  first | refine al_y rfl rfl (y_assignV rfl rfl) ?_ | refine al_y rfl rfl (y_assignP rfl rfl) ?_ | refine al_y rfl rfl (y_assignS rfl rfl) ?_ | refine al_y rfl rfl (y_assignG rfl rfl) ?_
  refine al_nil ?_
  refine qt_normal ?_
  refine ac_seq ?_
  refine ac_seq ?_
  refine ac_region ?_
  first | refine al_y rfl rfl (y_moveV rfl rfl) ?_ | refine al_y rfl rfl (y_moveP rfl rfl) ?_ | refine al_y rfl rfl (y_moveS rfl rfl) ?_ | refine al_y rfl rfl (y_moveG rfl rfl) ?_
  first | refine al_y rfl rfl (y_len rfl rfl rfl Tryz.underlying63) ?_ | refine al_y rfl rfl (y_len_psl rfl rfl rfl (by simp) Tryz.underlying63) ?_ | refine al_y rfl rfl (y_len_nil rfl rfl Tryz.underlying63) ?_
  refine al_y rfl rfl (y_gtr rfl rfl rfl) ?_
  first | refine al_y rfl rfl (y_moveV rfl rfl) ?_ | refine al_y rfl rfl (y_moveP rfl rfl) ?_ | refine al_y rfl rfl (y_moveS rfl rfl) ?_ | refine al_y rfl rfl (y_moveG rfl rfl) ?_
  first | refine al_maybe rfl rfl rfl (fun hg => y_moveV rfl rfl) ?_ | refine al_maybe rfl rfl rfl (fun hg => y_moveP rfl rfl) ?_ | refine al_maybe rfl rfl rfl (fun hg => y_moveS rfl rfl) ?_ | refine al_maybe rfl rfl rfl (fun hg => y_moveG rfl rfl) ?_ | refine al_maybe (x := .pub (.tup [])) rfl rfl rfl (fun hg => absurd hg (by decide)) ?_
  first | refine al_maybe rfl rfl rfl (fun hg => y_len_SL rfl (by first | exact rfl | exact if_pos hg) Tryz.underlying9) ?_ | refine al_maybe rfl rfl rfl (fun hg => y_len_str rfl (by first | exact rfl | exact if_pos hg) Tryz.underlying9) ?_ | refine al_maybe rfl rfl rfl (fun hg => y_len_SL rfl rfl Tryz.underlying9) ?_ | refine al_maybe rfl rfl rfl (fun hg => y_len_str rfl rfl Tryz.underlying9) ?_ | refine al_maybe (x := .pub (.tup [])) rfl rfl rfl (fun hg => absurd hg (by decide)) ?_
  first | refine al_maybe rfl rfl rfl (fun hg => y_gtr rfl (by first | exact rfl | exact if_pos hg) rfl) ?_ | refine al_maybe rfl rfl rfl (fun hg => y_gtr rfl rfl rfl) ?_ | refine al_maybe (x := .pub (.tup [])) rfl rfl rfl (fun hg => absurd hg (by decide)) ?_
  first | refine al_y rfl rfl (y_and rfl rfl rfl rfl) ?_ | refine al_y rfl rfl (y_or rfl rfl rfl rfl) ?_ | refine al_y rfl rfl (y_pick rfl rfl (fun _ => rfl) (fun _ => rfl)) ?_ | refine al_y rfl rfl (y_pick rfl rfl (fun _ => rfl) (fun h => absurd h (by decide))) ?_ | refine al_y rfl rfl (y_pick rfl rfl (fun h => absurd h (by decide)) (fun _ => rfl)) ?_
  refine al_nil ?_
  refine qt_normal ?_
  refine ac_cond rfl (fun h0 => ?_) (fun h0 => ?_)
  · skip
    refine ac_seq ?_
    refine ac_region ?_
    refine al_y rfl rfl (y_callF (av := []) rfl trivial hk) ?_
    first | refine al_y rfl rfl (y_assignV rfl rfl) ?_ | refine al_y rfl rfl (y_assignP rfl rfl) ?_ | refine al_y rfl rfl (y_assignS rfl rfl) ?_ | refine al_y rfl rfl (y_assignG rfl rfl) ?_
    refine al_nil ?_
    refine qt_normal ?_
    refine ac_ret ?_
    refine qt_ret ?_
    exact ⟨.inr rfl, AVle.refl _⟩
  · skip
    exfalso; simp [eBk] at h0; omega

/-- isobarlaw02.WireLooks -/
theorem f9_book (hk : KN G) (l : List Ent) (w : List UInt8) (miss : Int) (hs : l.length ≤ 15) (hw : w.length ≤ 9) (hwl : ∀ e ∈ l, e.word.length ≤ 9223372036854775807) (hb : bookB l = false) : ACall Tryz.prog G 9 [eBk l, eS w, ei miss] (.v (.bool true)) := by
  refine acall_of Tryz.func9 rfl (by kernel_rfl) rfl ?_
  refine ac_seq ?_
  refine ac_region ?_
  first | refine al_y rfl rfl (y_assignV rfl rfl) ?_ | refine al_y rfl rfl (y_assignP rfl rfl) ?_ | refine al_y rfl rfl (y_assignS rfl rfl) ?_ | refine al_y rfl rfl (y_assignG rfl rfl) ?_
  refine al_nil ?_
  refine qt_normal ?_
  refine ac_seq ?_
  refine ac_seq ?_
  refine ac_region ?_
  first | refine al_y rfl rfl (y_moveV rfl rfl) ?_ | refine al_y rfl rfl (y_moveP rfl rfl) ?_ | refine al_y rfl rfl (y_moveS rfl rfl) ?_ | refine al_y rfl rfl (y_moveG rfl rfl) ?_
  first | refine al_y rfl rfl (y_len rfl rfl rfl Tryz.underlying63) ?_ | refine al_y rfl rfl (y_len_psl rfl rfl rfl (by simp) Tryz.underlying63) ?_ | refine al_y rfl rfl (y_len_nil rfl rfl Tryz.underlying63) ?_
  refine al_y rfl rfl (y_gtr rfl rfl rfl) ?_
  first | refine al_y rfl rfl (y_moveV rfl rfl) ?_ | refine al_y rfl rfl (y_moveP rfl rfl) ?_ | refine al_y rfl rfl (y_moveS rfl rfl) ?_ | refine al_y rfl rfl (y_moveG rfl rfl) ?_
  first | refine al_maybe rfl rfl rfl (fun hg => y_moveV rfl rfl) ?_ | refine al_maybe rfl rfl rfl (fun hg => y_moveP rfl rfl) ?_ | refine al_maybe rfl rfl rfl (fun hg => y_moveS rfl rfl) ?_ | refine al_maybe rfl rfl rfl (fun hg => y_moveG rfl rfl) ?_ | refine al_maybe (x := .pub (.tup [])) rfl rfl rfl (fun hg => absurd hg (by decide)) ?_
  first | refine al_maybe rfl rfl rfl (fun hg => y_len_SL rfl (by first | exact rfl | exact if_pos hg) Tryz.underlying9) ?_ | refine al_maybe rfl rfl rfl (fun hg => y_len_str rfl (by first | exact rfl | exact if_pos hg) Tryz.underlying9) ?_ | refine al_maybe rfl rfl rfl (fun hg => y_len_SL rfl rfl Tryz.underlying9) ?_ | refine al_maybe rfl rfl rfl (fun hg => y_len_str rfl rfl Tryz.underlying9) ?_ | refine al_maybe (x := .pub (.tup [])) rfl rfl rfl (fun hg => absurd hg (by decide)) ?_
  first | refine al_maybe rfl rfl rfl (fun hg => y_gtr rfl (by first | exact rfl | exact if_pos hg) rfl) ?_ | refine al_maybe rfl rfl rfl (fun hg => y_gtr rfl rfl rfl) ?_ | refine al_maybe (x := .pub (.tup [])) rfl rfl rfl (fun hg => absurd hg (by decide)) ?_
  first | refine al_y rfl rfl (y_and rfl rfl rfl rfl) ?_ | refine al_y rfl rfl (y_or rfl rfl rfl rfl) ?_ | refine al_y rfl rfl (y_pick rfl rfl (fun _ => rfl) (fun _ => rfl)) ?_ | refine al_y rfl rfl (y_pick rfl rfl (fun _ => rfl) (fun h => absurd h (by decide))) ?_ | refine al_y rfl rfl (y_pick rfl rfl (fun h => absurd h (by decide)) (fun _ => rfl)) ?_
  refine al_nil ?_
  refine qt_normal ?_
  refine ac_cond rfl (fun h0 => ?_) (fun h0 => ?_)
  · skip
    exfalso; simp [eBk] at h0; omega
  · skip
    refine ac_skip ?_
    refine qt_normal ?_
    refine ac_seq ?_
    refine ac_region ?_
    first | refine al_y rfl rfl (y_moveV rfl rfl) ?_ | refine al_y rfl rfl (y_moveP rfl rfl) ?_ | refine al_y rfl rfl (y_moveS rfl rfl) ?_ | refine al_y rfl rfl (y_moveG rfl rfl) ?_
    first | refine al_y rfl rfl (y_moveV rfl rfl) ?_ | refine al_y rfl rfl (y_moveP rfl rfl) ?_ | refine al_y rfl rfl (y_moveS rfl rfl) ?_ | refine al_y rfl rfl (y_moveG rfl rfl) ?_
    first | refine al_y rfl rfl (y_moveV rfl rfl) ?_ | refine al_y rfl rfl (y_moveP rfl rfl) ?_ | refine al_y rfl rfl (y_moveS rfl rfl) ?_ | refine al_y rfl rfl (y_moveG rfl rfl) ?_
    refine al_y rfl rfl (y_callF (av := [_, _, _]) rfl ⟨rfl, rfl, rfl, trivial⟩ (f46_bad l w miss (by omega) (by first | (rw [hb]; rfl) | (rw [hb, hr]; rfl) | (rw [hb, hr, hm]; rfl)))) ?_
    first | refine al_y rfl rfl (y_moveV rfl rfl) ?_ | refine al_y rfl rfl (y_moveP rfl rfl) ?_ | refine al_y rfl rfl (y_moveS rfl rfl) ?_ | refine al_y rfl rfl (y_moveG rfl rfl) ?_
    refine al_y rfl rfl (y_extract rfl rfl rfl) ?_
    refine al_y rfl rfl (y_extract rfl rfl rfl) ?_
    first | refine al_y rfl rfl (y_assignV rfl rfl) ?_ | refine al_y rfl rfl (y_assignP rfl rfl) ?_ | refine al_y rfl rfl (y_assignS rfl rfl) ?_ | refine al_y rfl rfl (y_assignG rfl rfl) ?_
    first | refine al_y rfl rfl (y_assignV rfl rfl) ?_ | refine al_y rfl rfl (y_assignP rfl rfl) ?_ | refine al_y rfl rfl (y_assignS rfl rfl) ?_ | refine al_y rfl rfl (y_assignG rfl rfl) ?_
    refine al_nil ?_
    refine qt_normal ?_
    refine ac_seq ?_
    refine ac_seq ?_
    refine ac_region ?_
    first | refine al_y rfl rfl (y_moveV rfl rfl) ?_ | refine al_y rfl rfl (y_moveP rfl rfl) ?_ | refine al_y rfl rfl (y_moveS rfl rfl) ?_ | refine al_y rfl rfl (y_moveG rfl rfl) ?_
    refine al_y rfl rfl (y_callF (av := [_]) rfl ⟨rfl, trivial⟩ (f47v l (by omega) hwl hb)) ?_
    refine al_y rfl rfl (y_not rfl rfl) ?_
    first | refine al_y rfl rfl (y_moveV rfl rfl) ?_ | refine al_y rfl rfl (y_moveP rfl rfl) ?_ | refine al_y rfl rfl (y_moveS rfl rfl) ?_ | refine al_y rfl rfl (y_moveG rfl rfl) ?_
    first | refine al_maybe rfl rfl rfl (fun hg => y_moveV rfl rfl) ?_ | refine al_maybe rfl rfl rfl (fun hg => y_moveP rfl rfl) ?_ | refine al_maybe rfl rfl rfl (fun hg => y_moveS rfl rfl) ?_ | refine al_maybe rfl rfl rfl (fun hg => y_moveG rfl rfl) ?_ | refine al_maybe (x := .pub (.tup [])) rfl rfl rfl (fun hg => absurd hg (by decide)) ?_
    first | refine al_maybe rfl rfl rfl (fun hg => y_callF (av := [_]) rfl ⟨(by first | exact (if_pos hg) | exact rfl), trivial⟩ (f48v w (by omega) hr)) ?_ | refine al_maybe rfl rfl rfl (fun hg => y_callF (av := [_]) rfl ⟨(by first | exact rfl | exact rfl), trivial⟩ (f48v w (by omega) hr)) ?_ | refine al_maybe (x := .pub (.tup [])) rfl rfl rfl (fun hg => absurd hg (by decide)) ?_
    first | refine al_maybe rfl rfl rfl (fun hg => y_not rfl (by first | exact rfl | exact if_pos hg)) ?_ | refine al_maybe rfl rfl rfl (fun hg => y_not rfl rfl) ?_ | refine al_maybe (x := .pub (.tup [])) rfl rfl rfl (fun hg => absurd hg (by decide)) ?_
    first | refine al_y rfl rfl (y_and rfl rfl rfl rfl) ?_ | refine al_y rfl rfl (y_or rfl rfl rfl rfl) ?_ | refine al_y rfl rfl (y_pick rfl rfl (fun _ => rfl) (fun _ => rfl)) ?_ | refine al_y rfl rfl (y_pick rfl rfl (fun _ => rfl) (fun h => absurd h (by decide))) ?_ | refine al_y rfl rfl (y_pick rfl rfl (fun h => absurd h (by decide)) (fun _ => rfl)) ?_
    first | refine al_y rfl rfl (y_moveV rfl rfl) ?_ | refine al_y rfl rfl (y_moveP rfl rfl) ?_ | refine al_y rfl rfl (y_moveS rfl rfl) ?_ | refine al_y rfl rfl (y_moveG rfl rfl) ?_
    first | refine al_maybe rfl rfl rfl (fun hg => y_moveV rfl rfl) ?_ | refine al_maybe rfl rfl rfl (fun hg => y_moveP rfl rfl) ?_ | refine al_maybe rfl rfl rfl (fun hg => y_moveS rfl rfl) ?_ | refine al_maybe rfl rfl rfl (fun hg => y_moveG rfl rfl) ?_ | refine al_maybe (x := .pub (.tup [])) rfl rfl rfl (fun hg => absurd hg (by decide)) ?_
    first | refine al_maybe rfl rfl rfl (fun hg => y_lss rfl (by first | exact rfl | exact if_pos hg) rfl) ?_ | refine al_maybe rfl rfl rfl (fun hg => y_lss rfl rfl rfl) ?_ | refine al_maybe (x := .pub (.tup [])) rfl rfl rfl (fun hg => absurd hg (by decide)) ?_
    first | refine al_y rfl rfl (y_and rfl rfl rfl rfl) ?_ | refine al_y rfl rfl (y_or rfl rfl rfl rfl) ?_ | refine al_y rfl rfl (y_pick rfl rfl (fun _ => rfl) (fun _ => rfl)) ?_ | refine al_y rfl rfl (y_pick rfl rfl (fun _ => rfl) (fun h => absurd h (by decide))) ?_ | refine al_y rfl rfl (y_pick rfl rfl (fun h => absurd h (by decide)) (fun _ => rfl)) ?_
    first | refine al_y rfl rfl (y_moveV rfl rfl) ?_ | refine al_y rfl rfl (y_moveP rfl rfl) ?_ | refine al_y rfl rfl (y_moveS rfl rfl) ?_ | refine al_y rfl rfl (y_moveG rfl rfl) ?_
    first | refine al_maybe rfl rfl rfl (fun hg => y_moveV rfl rfl) ?_ | refine al_maybe rfl rfl rfl (fun hg => y_moveP rfl rfl) ?_ | refine al_maybe rfl rfl rfl (fun hg => y_moveS rfl rfl) ?_ | refine al_maybe rfl rfl rfl (fun hg => y_moveG rfl rfl) ?_ | refine al_maybe (x := .pub (.tup [])) rfl rfl rfl (fun hg => absurd hg (by decide)) ?_
    first | refine al_maybe rfl rfl rfl (fun hg => y_gtr rfl (by first | exact rfl | exact if_pos hg) rfl) ?_ | refine al_maybe rfl rfl rfl (fun hg => y_gtr rfl rfl rfl) ?_ | refine al_maybe (x := .pub (.tup [])) rfl rfl rfl (fun hg => absurd hg (by decide)) ?_
    first | refine al_y rfl rfl (y_and rfl rfl rfl rfl) ?_ | refine al_y rfl rfl (y_or rfl rfl rfl rfl) ?_ | refine al_y rfl rfl (y_pick rfl rfl (fun _ => rfl) (fun _ => rfl)) ?_ | refine al_y rfl rfl (y_pick rfl rfl (fun _ => rfl) (fun h => absurd h (by decide))) ?_ | refine al_y rfl rfl (y_pick rfl rfl (fun h => absurd h (by decide)) (fun _ => rfl)) ?_
    refine al_nil ?_
    refine qt_normal ?_
    refine ac_cond rfl (fun h1 => ?_) (fun h1 => ?_)
    · skip
      refine ac_seq ?_
      refine ac_region ?_
      first | refine al_y rfl rfl (y_moveV rfl rfl) ?_ | refine al_y rfl rfl (y_moveP rfl rfl) ?_ | refine al_y rfl rfl (y_moveS rfl rfl) ?_ | refine al_y rfl rfl (y_moveG rfl rfl) ?_
      refine al_y rfl rfl (y_eql rfl rfl rfl) ?_
      first | refine al_y rfl rfl (y_moveV rfl rfl) ?_ | refine al_y rfl rfl (y_moveP rfl rfl) ?_ | refine al_y rfl rfl (y_moveS rfl rfl) ?_ | refine al_y rfl rfl (y_moveG rfl rfl) ?_
      first | refine al_maybe rfl rfl rfl (fun hg => y_moveV rfl rfl) ?_ | refine al_maybe rfl rfl rfl (fun hg => y_moveP rfl rfl) ?_ | refine al_maybe rfl rfl rfl (fun hg => y_moveS rfl rfl) ?_ | refine al_maybe rfl rfl rfl (fun hg => y_moveG rfl rfl) ?_ | refine al_maybe (x := .pub (.tup [])) rfl rfl rfl (fun hg => absurd hg (by decide)) ?_
      first | refine al_maybe rfl rfl rfl (fun hg => y_len rfl rfl (by first | exact rfl | exact if_pos hg) Tryz.underlying23) ?_ | refine al_maybe rfl rfl rfl (fun hg => y_len_psl rfl (by first | exact rfl | exact if_pos hg) rfl (by simp) Tryz.underlying23) ?_ | refine al_maybe rfl rfl rfl (fun hg => y_len_nil rfl (by first | exact rfl | exact if_pos hg) Tryz.underlying23) ?_ | refine al_maybe rfl rfl rfl (fun hg => y_len rfl rfl rfl Tryz.underlying23) ?_ | refine al_maybe rfl rfl rfl (fun hg => y_len_psl rfl rfl rfl (by simp) Tryz.underlying23) ?_ | refine al_maybe rfl rfl rfl (fun hg => y_len_nil rfl rfl Tryz.underlying23) ?_ | refine al_maybe (x := .pub (.tup [])) rfl rfl rfl (fun hg => absurd hg (by decide)) ?_
      first | refine al_maybe rfl rfl rfl (fun hg => y_eql rfl (by first | exact rfl | exact if_pos hg) rfl) ?_ | refine al_maybe rfl rfl rfl (fun hg => y_eql rfl rfl rfl) ?_ | refine al_maybe (x := .pub (.tup [])) rfl rfl rfl (fun hg => absurd hg (by decide)) ?_
      first | refine al_y rfl rfl (y_and rfl rfl rfl rfl) ?_ | refine al_y rfl rfl (y_or rfl rfl rfl rfl) ?_ | refine al_y rfl rfl (y_pick rfl rfl (fun _ => rfl) (fun _ => rfl)) ?_ | refine al_y rfl rfl (y_pick rfl rfl (fun _ => rfl) (fun h => absurd h (by decide))) ?_ | refine al_y rfl rfl (y_pick rfl rfl (fun h => absurd h (by decide)) (fun _ => rfl)) ?_
      first | refine al_y rfl rfl (y_moveV rfl rfl) ?_ | refine al_y rfl rfl (y_moveP rfl rfl) ?_ | refine al_y rfl rfl (y_moveS rfl rfl) ?_ | refine al_y rfl rfl (y_moveG rfl rfl) ?_
      first | refine al_maybe rfl rfl rfl (fun hg => y_callF (av := []) rfl trivial hk) ?_ | refine al_maybe (x := .pub (.tup [])) rfl rfl rfl (fun hg => absurd hg (by decide)) ?_
      first | refine al_y rfl rfl (y_and rfl rfl rfl rfl) ?_ | refine al_y rfl rfl (y_or rfl rfl rfl rfl) ?_ | refine al_y rfl rfl (y_pick rfl rfl (fun _ => rfl) (fun _ => rfl)) ?_ | refine al_y rfl rfl (y_pick rfl rfl (fun _ => rfl) (fun h => absurd h (by decide))) ?_ | refine al_y rfl rfl (y_pick rfl rfl (fun h => absurd h (by decide)) (fun _ => rfl)) ?_
      first | refine al_y rfl rfl (y_assignV rfl rfl) ?_ | refine al_y rfl rfl (y_assignP rfl rfl) ?_ | refine al_y rfl rfl (y_assignS rfl rfl) ?_ | refine al_y rfl rfl (y_assignG rfl rfl) ?_
      refine al_nil ?_
      refine qt_normal ?_
      refine ac_ret ?_
      refine qt_ret ?_
      exact ⟨.inr rfl, AVle.refl _⟩
    · skip
      exfalso; simp at h1

/-- isobarlaw02.WireLooks -/
theorem f9_word (hk : KN G) (l : List Ent) (w : List UInt8) (miss : Int) (hs : l.length ≤ 15) (hw : w.length ≤ 9) (hwl : ∀ e ∈ l, e.word.length ≤ 9223372036854775807) (hb : bookB l = true) (hr : ofB lokR w = false) : ACall Tryz.prog G 9 [eBk l, eS w, ei miss] (.v (.bool true)) := by
  refine acall_of Tryz.func9 rfl (by kernel_rfl) rfl ?_
  refine ac_seq ?_
  refine ac_region ?_
  first | refine al_y rfl rfl (y_assignV rfl rfl) ?_ | refine al_y rfl rfl (y_assignP rfl rfl) ?_ | refine al_y rfl rfl (y_assignS rfl rfl) ?_ | refine al_y rfl rfl (y_assignG rfl rfl) ?_
  refine al_nil ?_
  refine qt_normal ?_
  refine ac_seq ?_
  refine ac_seq ?_
  refine ac_region ?_
  first | refine al_y rfl rfl (y_moveV rfl rfl) ?_ | refine al_y rfl rfl (y_moveP rfl rfl) ?_ | refine al_y rfl rfl (y_moveS rfl rfl) ?_ | refine al_y rfl rfl (y_moveG rfl rfl) ?_
  first | refine al_y rfl rfl (y_len rfl rfl rfl Tryz.underlying63) ?_ | refine al_y rfl rfl (y_len_psl rfl rfl rfl (by simp) Tryz.underlying63) ?_ | refine al_y rfl rfl (y_len_nil rfl rfl Tryz.underlying63) ?_
  refine al_y rfl rfl (y_gtr rfl rfl rfl) ?_
  first | refine al_y rfl rfl (y_moveV rfl rfl) ?_ | refine al_y rfl rfl (y_moveP rfl rfl) ?_ | refine al_y rfl rfl (y_moveS rfl rfl) ?_ | refine al_y rfl rfl (y_moveG rfl rfl) ?_
  first | refine al_maybe rfl rfl rfl (fun hg => y_moveV rfl rfl) ?_ | refine al_maybe rfl rfl rfl (fun hg => y_moveP rfl rfl) ?_ | refine al_maybe rfl rfl rfl (fun hg => y_moveS rfl rfl) ?_ | refine al_maybe rfl rfl rfl (fun hg => y_moveG rfl rfl) ?_ | refine al_maybe (x := .pub (.tup [])) rfl rfl rfl (fun hg => absurd hg (by decide)) ?_
  first | refine al_maybe rfl rfl rfl (fun hg => y_len_SL rfl (by first | exact rfl | exact if_pos hg) Tryz.underlying9) ?_ | refine al_maybe rfl rfl rfl (fun hg => y_len_str rfl (by first | exact rfl | exact if_pos hg) Tryz.underlying9) ?_ | refine al_maybe rfl rfl rfl (fun hg => y_len_SL rfl rfl Tryz.underlying9) ?_ | refine al_maybe rfl rfl rfl (fun hg => y_len_str rfl rfl Tryz.underlying9) ?_ | refine al_maybe (x := .pub (.tup [])) rfl rfl rfl (fun hg => absurd hg (by decide)) ?_
  first | refine al_maybe rfl rfl rfl (fun hg => y_gtr rfl (by first | exact rfl | exact if_pos hg) rfl) ?_ | refine al_maybe rfl rfl rfl (fun hg => y_gtr rfl rfl rfl) ?_ | refine al_maybe (x := .pub (.tup [])) rfl rfl rfl (fun hg => absurd hg (by decide)) ?_
  first | refine al_y rfl rfl (y_and rfl rfl rfl rfl) ?_ | refine al_y rfl rfl (y_or rfl rfl rfl rfl) ?_ | refine al_y rfl rfl (y_pick rfl rfl (fun _ => rfl) (fun _ => rfl)) ?_ | refine al_y rfl rfl (y_pick rfl rfl (fun _ => rfl) (fun h => absurd h (by decide))) ?_ | refine al_y rfl rfl (y_pick rfl rfl (fun h => absurd h (by decide)) (fun _ => rfl)) ?_
  refine al_nil ?_
  refine qt_normal ?_
  refine ac_cond rfl (fun h0 => ?_) (fun h0 => ?_)
  · skip
    exfalso; simp [eBk] at h0; omega
  · skip
    refine ac_skip ?_
    refine qt_normal ?_
    refine ac_seq ?_
    refine ac_region ?_
    first | refine al_y rfl rfl (y_moveV rfl rfl) ?_ | refine al_y rfl rfl (y_moveP rfl rfl) ?_ | refine al_y rfl rfl (y_moveS rfl rfl) ?_ | refine al_y rfl rfl (y_moveG rfl rfl) ?_
    first | refine al_y rfl rfl (y_moveV rfl rfl) ?_ | refine al_y rfl rfl (y_moveP rfl rfl) ?_ | refine al_y rfl rfl (y_moveS rfl rfl) ?_ | refine al_y rfl rfl (y_moveG rfl rfl) ?_
    first | refine al_y rfl rfl (y_moveV rfl rfl) ?_ | refine al_y rfl rfl (y_moveP rfl rfl) ?_ | refine al_y rfl rfl (y_moveS rfl rfl) ?_ | refine al_y rfl rfl (y_moveG rfl rfl) ?_
    refine al_y rfl rfl (y_callF (av := [_, _, _]) rfl ⟨rfl, rfl, rfl, trivial⟩ (f46_bad l w miss (by omega) (by first | (rw [hb]; rfl) | (rw [hb, hr]; rfl) | (rw [hb, hr, hm]; rfl)))) ?_
    first | refine al_y rfl rfl (y_moveV rfl rfl) ?_ | refine al_y rfl rfl (y_moveP rfl rfl) ?_ | refine al_y rfl rfl (y_moveS rfl rfl) ?_ | refine al_y rfl rfl (y_moveG rfl rfl) ?_
    refine al_y rfl rfl (y_extract rfl rfl rfl) ?_
    refine al_y rfl rfl (y_extract rfl rfl rfl) ?_
    first | refine al_y rfl rfl (y_assignV rfl rfl) ?_ | refine al_y rfl rfl (y_assignP rfl rfl) ?_ | refine al_y rfl rfl (y_assignS rfl rfl) ?_ | refine al_y rfl rfl (y_assignG rfl rfl) ?_
    first | refine al_y rfl rfl (y_assignV rfl rfl) ?_ | refine al_y rfl rfl (y_assignP rfl rfl) ?_ | refine al_y rfl rfl (y_assignS rfl rfl) ?_ | refine al_y rfl rfl (y_assignG rfl rfl) ?_
    refine al_nil ?_
    refine qt_normal ?_
    refine ac_seq ?_
    refine ac_seq ?_
    refine ac_region ?_
    first | refine al_y rfl rfl (y_moveV rfl rfl) ?_ | refine al_y rfl rfl (y_moveP rfl rfl) ?_ | refine al_y rfl rfl (y_moveS rfl rfl) ?_ | refine al_y rfl rfl (y_moveG rfl rfl) ?_
    refine al_y rfl rfl (y_callF (av := [_]) rfl ⟨rfl, trivial⟩ (f47v l (by omega) hwl hb)) ?_
    refine al_y rfl rfl (y_not rfl rfl) ?_
    first | refine al_y rfl rfl (y_moveV rfl rfl) ?_ | refine al_y rfl rfl (y_moveP rfl rfl) ?_ | refine al_y rfl rfl (y_moveS rfl rfl) ?_ | refine al_y rfl rfl (y_moveG rfl rfl) ?_
    first | refine al_maybe rfl rfl rfl (fun hg => y_moveV rfl rfl) ?_ | refine al_maybe rfl rfl rfl (fun hg => y_moveP rfl rfl) ?_ | refine al_maybe rfl rfl rfl (fun hg => y_moveS rfl rfl) ?_ | refine al_maybe rfl rfl rfl (fun hg => y_moveG rfl rfl) ?_ | refine al_maybe (x := .pub (.tup [])) rfl rfl rfl (fun hg => absurd hg (by decide)) ?_
    first | refine al_maybe rfl rfl rfl (fun hg => y_callF (av := [_]) rfl ⟨(by first | exact (if_pos hg) | exact rfl), trivial⟩ (f48v w (by omega) hr)) ?_ | refine al_maybe rfl rfl rfl (fun hg => y_callF (av := [_]) rfl ⟨(by first | exact rfl | exact rfl), trivial⟩ (f48v w (by omega) hr)) ?_ | refine al_maybe (x := .pub (.tup [])) rfl rfl rfl (fun hg => absurd hg (by decide)) ?_
    first | refine al_maybe rfl rfl rfl (fun hg => y_not rfl (by first | exact rfl | exact if_pos hg)) ?_ | refine al_maybe rfl rfl rfl (fun hg => y_not rfl rfl) ?_ | refine al_maybe (x := .pub (.tup [])) rfl rfl rfl (fun hg => absurd hg (by decide)) ?_
    first | refine al_y rfl rfl (y_and rfl rfl rfl rfl) ?_ | refine al_y rfl rfl (y_or rfl rfl rfl rfl) ?_ | refine al_y rfl rfl (y_pick rfl rfl (fun _ => rfl) (fun _ => rfl)) ?_ | refine al_y rfl rfl (y_pick rfl rfl (fun _ => rfl) (fun h => absurd h (by decide))) ?_ | refine al_y rfl rfl (y_pick rfl rfl (fun h => absurd h (by decide)) (fun _ => rfl)) ?_
    first | refine al_y rfl rfl (y_moveV rfl rfl) ?_ | refine al_y rfl rfl (y_moveP rfl rfl) ?_ | refine al_y rfl rfl (y_moveS rfl rfl) ?_ | refine al_y rfl rfl (y_moveG rfl rfl) ?_
    first | refine al_maybe rfl rfl rfl (fun hg => y_moveV rfl rfl) ?_ | refine al_maybe rfl rfl rfl (fun hg => y_moveP rfl rfl) ?_ | refine al_maybe rfl rfl rfl (fun hg => y_moveS rfl rfl) ?_ | refine al_maybe rfl rfl rfl (fun hg => y_moveG rfl rfl) ?_ | refine al_maybe (x := .pub (.tup [])) rfl rfl rfl (fun hg => absurd hg (by decide)) ?_
    first | refine al_maybe rfl rfl rfl (fun hg => y_lss rfl (by first | exact rfl | exact if_pos hg) rfl) ?_ | refine al_maybe rfl rfl rfl (fun hg => y_lss rfl rfl rfl) ?_ | refine al_maybe (x := .pub (.tup [])) rfl rfl rfl (fun hg => absurd hg (by decide)) ?_
    first | refine al_y rfl rfl (y_and rfl rfl rfl rfl) ?_ | refine al_y rfl rfl (y_or rfl rfl rfl rfl) ?_ | refine al_y rfl rfl (y_pick rfl rfl (fun _ => rfl) (fun _ => rfl)) ?_ | refine al_y rfl rfl (y_pick rfl rfl (fun _ => rfl) (fun h => absurd h (by decide))) ?_ | refine al_y rfl rfl (y_pick rfl rfl (fun h => absurd h (by decide)) (fun _ => rfl)) ?_
    first | refine al_y rfl rfl (y_moveV rfl rfl) ?_ | refine al_y rfl rfl (y_moveP rfl rfl) ?_ | refine al_y rfl rfl (y_moveS rfl rfl) ?_ | refine al_y rfl rfl (y_moveG rfl rfl) ?_
    first | refine al_maybe rfl rfl rfl (fun hg => y_moveV rfl rfl) ?_ | refine al_maybe rfl rfl rfl (fun hg => y_moveP rfl rfl) ?_ | refine al_maybe rfl rfl rfl (fun hg => y_moveS rfl rfl) ?_ | refine al_maybe rfl rfl rfl (fun hg => y_moveG rfl rfl) ?_ | refine al_maybe (x := .pub (.tup [])) rfl rfl rfl (fun hg => absurd hg (by decide)) ?_
    first | refine al_maybe rfl rfl rfl (fun hg => y_gtr rfl (by first | exact rfl | exact if_pos hg) rfl) ?_ | refine al_maybe rfl rfl rfl (fun hg => y_gtr rfl rfl rfl) ?_ | refine al_maybe (x := .pub (.tup [])) rfl rfl rfl (fun hg => absurd hg (by decide)) ?_
    first | refine al_y rfl rfl (y_and rfl rfl rfl rfl) ?_ | refine al_y rfl rfl (y_or rfl rfl rfl rfl) ?_ | refine al_y rfl rfl (y_pick rfl rfl (fun _ => rfl) (fun _ => rfl)) ?_ | refine al_y rfl rfl (y_pick rfl rfl (fun _ => rfl) (fun h => absurd h (by decide))) ?_ | refine al_y rfl rfl (y_pick rfl rfl (fun h => absurd h (by decide)) (fun _ => rfl)) ?_
    refine al_nil ?_
    refine qt_normal ?_
    refine ac_cond rfl (fun h1 => ?_) (fun h1 => ?_)
    · skip
      refine ac_seq ?_
      refine ac_region ?_
      first | refine al_y rfl rfl (y_moveV rfl rfl) ?_ | refine al_y rfl rfl (y_moveP rfl rfl) ?_ | refine al_y rfl rfl (y_moveS rfl rfl) ?_ | refine al_y rfl rfl (y_moveG rfl rfl) ?_
      refine al_y rfl rfl (y_eql rfl rfl rfl) ?_
      first | refine al_y rfl rfl (y_moveV rfl rfl) ?_ | refine al_y rfl rfl (y_moveP rfl rfl) ?_ | refine al_y rfl rfl (y_moveS rfl rfl) ?_ | refine al_y rfl rfl (y_moveG rfl rfl) ?_
      first | refine al_maybe rfl rfl rfl (fun hg => y_moveV rfl rfl) ?_ | refine al_maybe rfl rfl rfl (fun hg => y_moveP rfl rfl) ?_ | refine al_maybe rfl rfl rfl (fun hg => y_moveS rfl rfl) ?_ | refine al_maybe rfl rfl rfl (fun hg => y_moveG rfl rfl) ?_ | refine al_maybe (x := .pub (.tup [])) rfl rfl rfl (fun hg => absurd hg (by decide)) ?_
      first | refine al_maybe rfl rfl rfl (fun hg => y_len rfl rfl (by first | exact rfl | exact if_pos hg) Tryz.underlying23) ?_ | refine al_maybe rfl rfl rfl (fun hg => y_len_psl rfl (by first | exact rfl | exact if_pos hg) rfl (by simp) Tryz.underlying23) ?_ | refine al_maybe rfl rfl rfl (fun hg => y_len_nil rfl (by first | exact rfl | exact if_pos hg) Tryz.underlying23) ?_ | refine al_maybe rfl rfl rfl (fun hg => y_len rfl rfl rfl Tryz.underlying23) ?_ | refine al_maybe rfl rfl rfl (fun hg => y_len_psl rfl rfl rfl (by simp) Tryz.underlying23) ?_ | refine al_maybe rfl rfl rfl (fun hg => y_len_nil rfl rfl Tryz.underlying23) ?_ | refine al_maybe (x := .pub (.tup [])) rfl rfl rfl (fun hg => absurd hg (by decide)) ?_
      first | refine al_maybe rfl rfl rfl (fun hg => y_eql rfl (by first | exact rfl | exact if_pos hg) rfl) ?_ | refine al_maybe rfl rfl rfl (fun hg => y_eql rfl rfl rfl) ?_ | refine al_maybe (x := .pub (.tup [])) rfl rfl rfl (fun hg => absurd hg (by decide)) ?_
      first | refine al_y rfl rfl (y_and rfl rfl rfl rfl) ?_ | refine al_y rfl rfl (y_or rfl rfl rfl rfl) ?_ | refine al_y rfl rfl (y_pick rfl rfl (fun _ => rfl) (fun _ => rfl)) ?_ | refine al_y rfl rfl (y_pick rfl rfl (fun _ => rfl) (fun h => absurd h (by decide))) ?_ | refine al_y rfl rfl (y_pick rfl rfl (fun h => absurd h (by decide)) (fun _ => rfl)) ?_
      first | refine al_y rfl rfl (y_moveV rfl rfl) ?_ | refine al_y rfl rfl (y_moveP rfl rfl) ?_ | refine al_y rfl rfl (y_moveS rfl rfl) ?_ | refine al_y rfl rfl (y_moveG rfl rfl) ?_
      first | refine al_maybe rfl rfl rfl (fun hg => y_callF (av := []) rfl trivial hk) ?_ | refine al_maybe (x := .pub (.tup [])) rfl rfl rfl (fun hg => absurd hg (by decide)) ?_
      first | refine al_y rfl rfl (y_and rfl rfl rfl rfl) ?_ | refine al_y rfl rfl (y_or rfl rfl rfl rfl) ?_ | refine al_y rfl rfl (y_pick rfl rfl (fun _ => rfl) (fun _ => rfl)) ?_ | refine al_y rfl rfl (y_pick rfl rfl (fun _ => rfl) (fun h => absurd h (by decide))) ?_ | refine al_y rfl rfl (y_pick rfl rfl (fun h => absurd h (by decide)) (fun _ => rfl)) ?_
      first | refine al_y rfl rfl (y_assignV rfl rfl) ?_ | refine al_y rfl rfl (y_assignP rfl rfl) ?_ | refine al_y rfl rfl (y_assignS rfl rfl) ?_ | refine al_y rfl rfl (y_assignG rfl rfl) ?_
      refine al_nil ?_
      refine qt_normal ?_
      refine ac_ret ?_
      refine qt_ret ?_
      exact ⟨.inr rfl, AVle.refl _⟩
    · skip
      exfalso; simp at h1

/-- isobarlaw02.WireLooks -/
theorem f9_miss (hk : KN G) (l : List Ent) (w : List UInt8) (miss : Int) (hs : l.length ≤ 15) (hw : w.length ≤ 9) (hwl : ∀ e ∈ l, e.word.length ≤ 9223372036854775807) (hb : bookB l = true) (hr : ofB lokR w = true) (hm : inB miss 0 5 = false) : ACall Tryz.prog G 9 [eBk l, eS w, ei miss] (.v (.bool true)) := by
  refine acall_of Tryz.func9 rfl (by kernel_rfl) rfl ?_
  refine ac_seq ?_
  refine ac_region ?_
  first | refine al_y rfl rfl (y_assignV rfl rfl) ?_ | refine al_y rfl rfl (y_assignP rfl rfl) ?_ | refine al_y rfl rfl (y_assignS rfl rfl) ?_ | refine al_y rfl rfl (y_assignG rfl rfl) ?_
  refine al_nil ?_
  refine qt_normal ?_
  refine ac_seq ?_
  refine ac_seq ?_
  refine ac_region ?_
  first | refine al_y rfl rfl (y_moveV rfl rfl) ?_ | refine al_y rfl rfl (y_moveP rfl rfl) ?_ | refine al_y rfl rfl (y_moveS rfl rfl) ?_ | refine al_y rfl rfl (y_moveG rfl rfl) ?_
  first | refine al_y rfl rfl (y_len rfl rfl rfl Tryz.underlying63) ?_ | refine al_y rfl rfl (y_len_psl rfl rfl rfl (by simp) Tryz.underlying63) ?_ | refine al_y rfl rfl (y_len_nil rfl rfl Tryz.underlying63) ?_
  refine al_y rfl rfl (y_gtr rfl rfl rfl) ?_
  first | refine al_y rfl rfl (y_moveV rfl rfl) ?_ | refine al_y rfl rfl (y_moveP rfl rfl) ?_ | refine al_y rfl rfl (y_moveS rfl rfl) ?_ | refine al_y rfl rfl (y_moveG rfl rfl) ?_
  first | refine al_maybe rfl rfl rfl (fun hg => y_moveV rfl rfl) ?_ | refine al_maybe rfl rfl rfl (fun hg => y_moveP rfl rfl) ?_ | refine al_maybe rfl rfl rfl (fun hg => y_moveS rfl rfl) ?_ | refine al_maybe rfl rfl rfl (fun hg => y_moveG rfl rfl) ?_ | refine al_maybe (x := .pub (.tup [])) rfl rfl rfl (fun hg => absurd hg (by decide)) ?_
  first | refine al_maybe rfl rfl rfl (fun hg => y_len_SL rfl (by first | exact rfl | exact if_pos hg) Tryz.underlying9) ?_ | refine al_maybe rfl rfl rfl (fun hg => y_len_str rfl (by first | exact rfl | exact if_pos hg) Tryz.underlying9) ?_ | refine al_maybe rfl rfl rfl (fun hg => y_len_SL rfl rfl Tryz.underlying9) ?_ | refine al_maybe rfl rfl rfl (fun hg => y_len_str rfl rfl Tryz.underlying9) ?_ | refine al_maybe (x := .pub (.tup [])) rfl rfl rfl (fun hg => absurd hg (by decide)) ?_
  first | refine al_maybe rfl rfl rfl (fun hg => y_gtr rfl (by first | exact rfl | exact if_pos hg) rfl) ?_ | refine al_maybe rfl rfl rfl (fun hg => y_gtr rfl rfl rfl) ?_ | refine al_maybe (x := .pub (.tup [])) rfl rfl rfl (fun hg => absurd hg (by decide)) ?_
  first | refine al_y rfl rfl (y_and rfl rfl rfl rfl) ?_ | refine al_y rfl rfl (y_or rfl rfl rfl rfl) ?_ | refine al_y rfl rfl (y_pick rfl rfl (fun _ => rfl) (fun _ => rfl)) ?_ | refine al_y rfl rfl (y_pick rfl rfl (fun _ => rfl) (fun h => absurd h (by decide))) ?_ | refine al_y rfl rfl (y_pick rfl rfl (fun h => absurd h (by decide)) (fun _ => rfl)) ?_
  refine al_nil ?_
  refine qt_normal ?_
  refine ac_cond rfl (fun h0 => ?_) (fun h0 => ?_)
  · skip
    exfalso; simp [eBk] at h0; omega
  · skip
    refine ac_skip ?_
    refine qt_normal ?_
    refine ac_seq ?_
    refine ac_region ?_
    first | refine al_y rfl rfl (y_moveV rfl rfl) ?_ | refine al_y rfl rfl (y_moveP rfl rfl) ?_ | refine al_y rfl rfl (y_moveS rfl rfl) ?_ | refine al_y rfl rfl (y_moveG rfl rfl) ?_
    first | refine al_y rfl rfl (y_moveV rfl rfl) ?_ | refine al_y rfl rfl (y_moveP rfl rfl) ?_ | refine al_y rfl rfl (y_moveS rfl rfl) ?_ | refine al_y rfl rfl (y_moveG rfl rfl) ?_
    first | refine al_y rfl rfl (y_moveV rfl rfl) ?_ | refine al_y rfl rfl (y_moveP rfl rfl) ?_ | refine al_y rfl rfl (y_moveS rfl rfl) ?_ | refine al_y rfl rfl (y_moveG rfl rfl) ?_
    refine al_y rfl rfl (y_callF (av := [_, _, _]) rfl ⟨rfl, rfl, rfl, trivial⟩ (f46_bad l w miss (by omega) (by first | (rw [hb]; rfl) | (rw [hb, hr]; rfl) | (rw [hb, hr, hm]; rfl)))) ?_
    first | refine al_y rfl rfl (y_moveV rfl rfl) ?_ | refine al_y rfl rfl (y_moveP rfl rfl) ?_ | refine al_y rfl rfl (y_moveS rfl rfl) ?_ | refine al_y rfl rfl (y_moveG rfl rfl) ?_
    refine al_y rfl rfl (y_extract rfl rfl rfl) ?_
    refine al_y rfl rfl (y_extract rfl rfl rfl) ?_
    first | refine al_y rfl rfl (y_assignV rfl rfl) ?_ | refine al_y rfl rfl (y_assignP rfl rfl) ?_ | refine al_y rfl rfl (y_assignS rfl rfl) ?_ | refine al_y rfl rfl (y_assignG rfl rfl) ?_
    first | refine al_y rfl rfl (y_assignV rfl rfl) ?_ | refine al_y rfl rfl (y_assignP rfl rfl) ?_ | refine al_y rfl rfl (y_assignS rfl rfl) ?_ | refine al_y rfl rfl (y_assignG rfl rfl) ?_
    refine al_nil ?_
    refine qt_normal ?_
    refine ac_seq ?_
    refine ac_seq ?_
    refine ac_region ?_
    first | refine al_y rfl rfl (y_moveV rfl rfl) ?_ | refine al_y rfl rfl (y_moveP rfl rfl) ?_ | refine al_y rfl rfl (y_moveS rfl rfl) ?_ | refine al_y rfl rfl (y_moveG rfl rfl) ?_
    refine al_y rfl rfl (y_callF (av := [_]) rfl ⟨rfl, trivial⟩ (f47v l (by omega) hwl hb)) ?_
    refine al_y rfl rfl (y_not rfl rfl) ?_
    first | refine al_y rfl rfl (y_moveV rfl rfl) ?_ | refine al_y rfl rfl (y_moveP rfl rfl) ?_ | refine al_y rfl rfl (y_moveS rfl rfl) ?_ | refine al_y rfl rfl (y_moveG rfl rfl) ?_
    first | refine al_maybe rfl rfl rfl (fun hg => y_moveV rfl rfl) ?_ | refine al_maybe rfl rfl rfl (fun hg => y_moveP rfl rfl) ?_ | refine al_maybe rfl rfl rfl (fun hg => y_moveS rfl rfl) ?_ | refine al_maybe rfl rfl rfl (fun hg => y_moveG rfl rfl) ?_ | refine al_maybe (x := .pub (.tup [])) rfl rfl rfl (fun hg => absurd hg (by decide)) ?_
    first | refine al_maybe rfl rfl rfl (fun hg => y_callF (av := [_]) rfl ⟨(by first | exact (if_pos hg) | exact rfl), trivial⟩ (f48v w (by omega) hr)) ?_ | refine al_maybe rfl rfl rfl (fun hg => y_callF (av := [_]) rfl ⟨(by first | exact rfl | exact rfl), trivial⟩ (f48v w (by omega) hr)) ?_ | refine al_maybe (x := .pub (.tup [])) rfl rfl rfl (fun hg => absurd hg (by decide)) ?_
    first | refine al_maybe rfl rfl rfl (fun hg => y_not rfl (by first | exact rfl | exact if_pos hg)) ?_ | refine al_maybe rfl rfl rfl (fun hg => y_not rfl rfl) ?_ | refine al_maybe (x := .pub (.tup [])) rfl rfl rfl (fun hg => absurd hg (by decide)) ?_
    first | refine al_y rfl rfl (y_and rfl rfl rfl rfl) ?_ | refine al_y rfl rfl (y_or rfl rfl rfl rfl) ?_ | refine al_y rfl rfl (y_pick rfl rfl (fun _ => rfl) (fun _ => rfl)) ?_ | refine al_y rfl rfl (y_pick rfl rfl (fun _ => rfl) (fun h => absurd h (by decide))) ?_ | refine al_y rfl rfl (y_pick rfl rfl (fun h => absurd h (by decide)) (fun _ => rfl)) ?_
    first | refine al_y rfl rfl (y_moveV rfl rfl) ?_ | refine al_y rfl rfl (y_moveP rfl rfl) ?_ | refine al_y rfl rfl (y_moveS rfl rfl) ?_ | refine al_y rfl rfl (y_moveG rfl rfl) ?_
    first | refine al_maybe rfl rfl rfl (fun hg => y_moveV rfl rfl) ?_ | refine al_maybe rfl rfl rfl (fun hg => y_moveP rfl rfl) ?_ | refine al_maybe rfl rfl rfl (fun hg => y_moveS rfl rfl) ?_ | refine al_maybe rfl rfl rfl (fun hg => y_moveG rfl rfl) ?_ | refine al_maybe (x := .pub (.tup [])) rfl rfl rfl (fun hg => absurd hg (by decide)) ?_
    first | refine al_maybe rfl rfl rfl (fun hg => y_lss rfl (by first | exact rfl | exact if_pos hg) rfl) ?_ | refine al_maybe rfl rfl rfl (fun hg => y_lss rfl rfl rfl) ?_ | refine al_maybe (x := .pub (.tup [])) rfl rfl rfl (fun hg => absurd hg (by decide)) ?_
    first | refine al_y rfl rfl (y_and rfl rfl rfl rfl) ?_ | refine al_y rfl rfl (y_or rfl rfl rfl rfl) ?_ | refine al_y rfl rfl (y_pick rfl rfl (fun _ => rfl) (fun _ => rfl)) ?_ | refine al_y rfl rfl (y_pick rfl rfl (fun _ => rfl) (fun h => absurd h (by decide))) ?_ | refine al_y rfl rfl (y_pick rfl rfl (fun h => absurd h (by decide)) (fun _ => rfl)) ?_
    first | refine al_y rfl rfl (y_moveV rfl rfl) ?_ | refine al_y rfl rfl (y_moveP rfl rfl) ?_ | refine al_y rfl rfl (y_moveS rfl rfl) ?_ | refine al_y rfl rfl (y_moveG rfl rfl) ?_
    first | refine al_maybe rfl rfl rfl (fun hg => y_moveV rfl rfl) ?_ | refine al_maybe rfl rfl rfl (fun hg => y_moveP rfl rfl) ?_ | refine al_maybe rfl rfl rfl (fun hg => y_moveS rfl rfl) ?_ | refine al_maybe rfl rfl rfl (fun hg => y_moveG rfl rfl) ?_ | refine al_maybe (x := .pub (.tup [])) rfl rfl rfl (fun hg => absurd hg (by decide)) ?_
    first | refine al_maybe rfl rfl rfl (fun hg => y_gtr rfl (by first | exact rfl | exact if_pos hg) rfl) ?_ | refine al_maybe rfl rfl rfl (fun hg => y_gtr rfl rfl rfl) ?_ | refine al_maybe (x := .pub (.tup [])) rfl rfl rfl (fun hg => absurd hg (by decide)) ?_
    first | refine al_y rfl rfl (y_and rfl rfl rfl rfl) ?_ | refine al_y rfl rfl (y_or rfl rfl rfl rfl) ?_ | refine al_y rfl rfl (y_pick rfl rfl (fun _ => rfl) (fun _ => rfl)) ?_ | refine al_y rfl rfl (y_pick rfl rfl (fun _ => rfl) (fun h => absurd h (by decide))) ?_ | refine al_y rfl rfl (y_pick rfl rfl (fun h => absurd h (by decide)) (fun _ => rfl)) ?_
    refine al_nil ?_
    refine qt_normal ?_
    refine ac_cond rfl (fun h1 => ?_) (fun h1 => ?_)
    · skip
      refine ac_seq ?_
      refine ac_region ?_
      first | refine al_y rfl rfl (y_moveV rfl rfl) ?_ | refine al_y rfl rfl (y_moveP rfl rfl) ?_ | refine al_y rfl rfl (y_moveS rfl rfl) ?_ | refine al_y rfl rfl (y_moveG rfl rfl) ?_
      refine al_y rfl rfl (y_eql rfl rfl rfl) ?_
      first | refine al_y rfl rfl (y_moveV rfl rfl) ?_ | refine al_y rfl rfl (y_moveP rfl rfl) ?_ | refine al_y rfl rfl (y_moveS rfl rfl) ?_ | refine al_y rfl rfl (y_moveG rfl rfl) ?_
      first | refine al_maybe rfl rfl rfl (fun hg => y_moveV rfl rfl) ?_ | refine al_maybe rfl rfl rfl (fun hg => y_moveP rfl rfl) ?_ | refine al_maybe rfl rfl rfl (fun hg => y_moveS rfl rfl) ?_ | refine al_maybe rfl rfl rfl (fun hg => y_moveG rfl rfl) ?_ | refine al_maybe (x := .pub (.tup [])) rfl rfl rfl (fun hg => absurd hg (by decide)) ?_
      first | refine al_maybe rfl rfl rfl (fun hg => y_len rfl rfl (by first | exact rfl | exact if_pos hg) Tryz.underlying23) ?_ | refine al_maybe rfl rfl rfl (fun hg => y_len_psl rfl (by first | exact rfl | exact if_pos hg) rfl (by simp) Tryz.underlying23) ?_ | refine al_maybe rfl rfl rfl (fun hg => y_len_nil rfl (by first | exact rfl | exact if_pos hg) Tryz.underlying23) ?_ | refine al_maybe rfl rfl rfl (fun hg => y_len rfl rfl rfl Tryz.underlying23) ?_ | refine al_maybe rfl rfl rfl (fun hg => y_len_psl rfl rfl rfl (by simp) Tryz.underlying23) ?_ | refine al_maybe rfl rfl rfl (fun hg => y_len_nil rfl rfl Tryz.underlying23) ?_ | refine al_maybe (x := .pub (.tup [])) rfl rfl rfl (fun hg => absurd hg (by decide)) ?_
      first | refine al_maybe rfl rfl rfl (fun hg => y_eql rfl (by first | exact rfl | exact if_pos hg) rfl) ?_ | refine al_maybe rfl rfl rfl (fun hg => y_eql rfl rfl rfl) ?_ | refine al_maybe (x := .pub (.tup [])) rfl rfl rfl (fun hg => absurd hg (by decide)) ?_
      first | refine al_y rfl rfl (y_and rfl rfl rfl rfl) ?_ | refine al_y rfl rfl (y_or rfl rfl rfl rfl) ?_ | refine al_y rfl rfl (y_pick rfl rfl (fun _ => rfl) (fun _ => rfl)) ?_ | refine al_y rfl rfl (y_pick rfl rfl (fun _ => rfl) (fun h => absurd h (by decide))) ?_ | refine al_y rfl rfl (y_pick rfl rfl (fun h => absurd h (by decide)) (fun _ => rfl)) ?_
      first | refine al_y rfl rfl (y_moveV rfl rfl) ?_ | refine al_y rfl rfl (y_moveP rfl rfl) ?_ | refine al_y rfl rfl (y_moveS rfl rfl) ?_ | refine al_y rfl rfl (y_moveG rfl rfl) ?_
      first | refine al_maybe rfl rfl rfl (fun hg => y_callF (av := []) rfl trivial hk) ?_ | refine al_maybe (x := .pub (.tup [])) rfl rfl rfl (fun hg => absurd hg (by decide)) ?_
      first | refine al_y rfl rfl (y_and rfl rfl rfl rfl) ?_ | refine al_y rfl rfl (y_or rfl rfl rfl rfl) ?_ | refine al_y rfl rfl (y_pick rfl rfl (fun _ => rfl) (fun _ => rfl)) ?_ | refine al_y rfl rfl (y_pick rfl rfl (fun _ => rfl) (fun h => absurd h (by decide))) ?_ | refine al_y rfl rfl (y_pick rfl rfl (fun h => absurd h (by decide)) (fun _ => rfl)) ?_
      first | refine al_y rfl rfl (y_assignV rfl rfl) ?_ | refine al_y rfl rfl (y_assignP rfl rfl) ?_ | refine al_y rfl rfl (y_assignS rfl rfl) ?_ | refine al_y rfl rfl (y_assignG rfl rfl) ?_
      refine al_nil ?_
      refine qt_normal ?_
      refine ac_ret ?_
      refine qt_ret ?_
      exact ⟨.inr rfl, AVle.refl _⟩
    · skip
      exfalso; have h := h1; simp [inB] at h hm; omega

/-- isobarlaw02.WireLooks -/
theorem f9_none (hk : KN G) (l : List Ent) (w : List UInt8) (miss : Int) (hs : l.length ≤ 15) (hw : w.length ≤ 9) (hwl : ∀ e ∈ l, e.word.length ≤ 9223372036854775807) (hb : bookB l = true) (hr : ofB lokR w = true) (hm : inB miss 0 5 = true) (hz : lkA w miss l = []) : ACall Tryz.prog G 9 [eBk l, eS w, ei miss] (.v (.bool true)) := by
  have hm5 := inB_iff.1 hm
  have hal := lkA_len w miss l
  refine acall_of Tryz.func9 rfl (by kernel_rfl) rfl ?_
  refine ac_seq ?_
  refine ac_region ?_
  first | refine al_y rfl rfl (y_assignV rfl rfl) ?_ | refine al_y rfl rfl (y_assignP rfl rfl) ?_ | refine al_y rfl rfl (y_assignS rfl rfl) ?_ | refine al_y rfl rfl (y_assignG rfl rfl) ?_
  refine al_nil ?_
  refine qt_normal ?_
  refine ac_seq ?_
  refine ac_seq ?_
  refine ac_region ?_
  first | refine al_y rfl rfl (y_moveV rfl rfl) ?_ | refine al_y rfl rfl (y_moveP rfl rfl) ?_ | refine al_y rfl rfl (y_moveS rfl rfl) ?_ | refine al_y rfl rfl (y_moveG rfl rfl) ?_
  first | refine al_y rfl rfl (y_len rfl rfl rfl Tryz.underlying63) ?_ | refine al_y rfl rfl (y_len_psl rfl rfl rfl (by simp) Tryz.underlying63) ?_ | refine al_y rfl rfl (y_len_nil rfl rfl Tryz.underlying63) ?_
  refine al_y rfl rfl (y_gtr rfl rfl rfl) ?_
  first | refine al_y rfl rfl (y_moveV rfl rfl) ?_ | refine al_y rfl rfl (y_moveP rfl rfl) ?_ | refine al_y rfl rfl (y_moveS rfl rfl) ?_ | refine al_y rfl rfl (y_moveG rfl rfl) ?_
  first | refine al_maybe rfl rfl rfl (fun hg => y_moveV rfl rfl) ?_ | refine al_maybe rfl rfl rfl (fun hg => y_moveP rfl rfl) ?_ | refine al_maybe rfl rfl rfl (fun hg => y_moveS rfl rfl) ?_ | refine al_maybe rfl rfl rfl (fun hg => y_moveG rfl rfl) ?_ | refine al_maybe (x := .pub (.tup [])) rfl rfl rfl (fun hg => absurd hg (by decide)) ?_
  first | refine al_maybe rfl rfl rfl (fun hg => y_len_SL rfl (by first | exact rfl | exact if_pos hg) Tryz.underlying9) ?_ | refine al_maybe rfl rfl rfl (fun hg => y_len_str rfl (by first | exact rfl | exact if_pos hg) Tryz.underlying9) ?_ | refine al_maybe rfl rfl rfl (fun hg => y_len_SL rfl rfl Tryz.underlying9) ?_ | refine al_maybe rfl rfl rfl (fun hg => y_len_str rfl rfl Tryz.underlying9) ?_ | refine al_maybe (x := .pub (.tup [])) rfl rfl rfl (fun hg => absurd hg (by decide)) ?_
  first | refine al_maybe rfl rfl rfl (fun hg => y_gtr rfl (by first | exact rfl | exact if_pos hg) rfl) ?_ | refine al_maybe rfl rfl rfl (fun hg => y_gtr rfl rfl rfl) ?_ | refine al_maybe (x := .pub (.tup [])) rfl rfl rfl (fun hg => absurd hg (by decide)) ?_
  first | refine al_y rfl rfl (y_and rfl rfl rfl rfl) ?_ | refine al_y rfl rfl (y_or rfl rfl rfl rfl) ?_ | refine al_y rfl rfl (y_pick rfl rfl (fun _ => rfl) (fun _ => rfl)) ?_ | refine al_y rfl rfl (y_pick rfl rfl (fun _ => rfl) (fun h => absurd h (by decide))) ?_ | refine al_y rfl rfl (y_pick rfl rfl (fun h => absurd h (by decide)) (fun _ => rfl)) ?_
  refine al_nil ?_
  refine qt_normal ?_
  refine ac_cond rfl (fun h0 => ?_) (fun h0 => ?_)
  · skip
    exfalso; simp [eBk] at h0; omega
  · skip
    refine ac_skip ?_
    refine qt_normal ?_
    refine ac_seq ?_
    refine ac_region ?_
    first | refine al_y rfl rfl (y_moveV rfl rfl) ?_ | refine al_y rfl rfl (y_moveP rfl rfl) ?_ | refine al_y rfl rfl (y_moveS rfl rfl) ?_ | refine al_y rfl rfl (y_moveG rfl rfl) ?_
    first | refine al_y rfl rfl (y_moveV rfl rfl) ?_ | refine al_y rfl rfl (y_moveP rfl rfl) ?_ | refine al_y rfl rfl (y_moveS rfl rfl) ?_ | refine al_y rfl rfl (y_moveG rfl rfl) ?_
    first | refine al_y rfl rfl (y_moveV rfl rfl) ?_ | refine al_y rfl rfl (y_moveP rfl rfl) ?_ | refine al_y rfl rfl (y_moveS rfl rfl) ?_ | refine al_y rfl rfl (y_moveG rfl rfl) ?_
    refine al_y rfl rfl (y_callF (av := [_, _, _]) rfl ⟨rfl, rfl, rfl, trivial⟩ (f46z l w miss (by omega) hb hr hm hz)) ?_
    first | refine al_y rfl rfl (y_moveV rfl rfl) ?_ | refine al_y rfl rfl (y_moveP rfl rfl) ?_ | refine al_y rfl rfl (y_moveS rfl rfl) ?_ | refine al_y rfl rfl (y_moveG rfl rfl) ?_
    refine al_y rfl rfl (y_extract rfl rfl rfl) ?_
    refine al_y rfl rfl (y_extract rfl rfl rfl) ?_
    first | refine al_y rfl rfl (y_assignV rfl rfl) ?_ | refine al_y rfl rfl (y_assignP rfl rfl) ?_ | refine al_y rfl rfl (y_assignS rfl rfl) ?_ | refine al_y rfl rfl (y_assignG rfl rfl) ?_
    first | refine al_y rfl rfl (y_assignV rfl rfl) ?_ | refine al_y rfl rfl (y_assignP rfl rfl) ?_ | refine al_y rfl rfl (y_assignS rfl rfl) ?_ | refine al_y rfl rfl (y_assignG rfl rfl) ?_
    refine al_nil ?_
    refine qt_normal ?_
    refine ac_seq ?_
    refine ac_seq ?_
    refine ac_region ?_
    first | refine al_y rfl rfl (y_moveV rfl rfl) ?_ | refine al_y rfl rfl (y_moveP rfl rfl) ?_ | refine al_y rfl rfl (y_moveS rfl rfl) ?_ | refine al_y rfl rfl (y_moveG rfl rfl) ?_
    refine al_y rfl rfl (y_callF (av := [_]) rfl ⟨rfl, trivial⟩ (f47v l (by omega) hwl hb)) ?_
    refine al_y rfl rfl (y_not rfl rfl) ?_
    first | refine al_y rfl rfl (y_moveV rfl rfl) ?_ | refine al_y rfl rfl (y_moveP rfl rfl) ?_ | refine al_y rfl rfl (y_moveS rfl rfl) ?_ | refine al_y rfl rfl (y_moveG rfl rfl) ?_
    first | refine al_maybe rfl rfl rfl (fun hg => y_moveV rfl rfl) ?_ | refine al_maybe rfl rfl rfl (fun hg => y_moveP rfl rfl) ?_ | refine al_maybe rfl rfl rfl (fun hg => y_moveS rfl rfl) ?_ | refine al_maybe rfl rfl rfl (fun hg => y_moveG rfl rfl) ?_ | refine al_maybe (x := .pub (.tup [])) rfl rfl rfl (fun hg => absurd hg (by decide)) ?_
    first | refine al_maybe rfl rfl rfl (fun hg => y_callF (av := [_]) rfl ⟨(by first | exact (if_pos hg) | exact rfl), trivial⟩ (f48v w (by omega) hr)) ?_ | refine al_maybe rfl rfl rfl (fun hg => y_callF (av := [_]) rfl ⟨(by first | exact rfl | exact rfl), trivial⟩ (f48v w (by omega) hr)) ?_ | refine al_maybe (x := .pub (.tup [])) rfl rfl rfl (fun hg => absurd hg (by decide)) ?_
    first | refine al_maybe rfl rfl rfl (fun hg => y_not rfl (by first | exact rfl | exact if_pos hg)) ?_ | refine al_maybe rfl rfl rfl (fun hg => y_not rfl rfl) ?_ | refine al_maybe (x := .pub (.tup [])) rfl rfl rfl (fun hg => absurd hg (by decide)) ?_
    first | refine al_y rfl rfl (y_and rfl rfl rfl rfl) ?_ | refine al_y rfl rfl (y_or rfl rfl rfl rfl) ?_ | refine al_y rfl rfl (y_pick rfl rfl (fun _ => rfl) (fun _ => rfl)) ?_ | refine al_y rfl rfl (y_pick rfl rfl (fun _ => rfl) (fun h => absurd h (by decide))) ?_ | refine al_y rfl rfl (y_pick rfl rfl (fun h => absurd h (by decide)) (fun _ => rfl)) ?_
    first | refine al_y rfl rfl (y_moveV rfl rfl) ?_ | refine al_y rfl rfl (y_moveP rfl rfl) ?_ | refine al_y rfl rfl (y_moveS rfl rfl) ?_ | refine al_y rfl rfl (y_moveG rfl rfl) ?_
    first | refine al_maybe rfl rfl rfl (fun hg => y_moveV rfl rfl) ?_ | refine al_maybe rfl rfl rfl (fun hg => y_moveP rfl rfl) ?_ | refine al_maybe rfl rfl rfl (fun hg => y_moveS rfl rfl) ?_ | refine al_maybe rfl rfl rfl (fun hg => y_moveG rfl rfl) ?_ | refine al_maybe (x := .pub (.tup [])) rfl rfl rfl (fun hg => absurd hg (by decide)) ?_
    first | refine al_maybe rfl rfl rfl (fun hg => y_lss rfl (by first | exact rfl | exact if_pos hg) rfl) ?_ | refine al_maybe rfl rfl rfl (fun hg => y_lss rfl rfl rfl) ?_ | refine al_maybe (x := .pub (.tup [])) rfl rfl rfl (fun hg => absurd hg (by decide)) ?_
    first | refine al_y rfl rfl (y_and rfl rfl rfl rfl) ?_ | refine al_y rfl rfl (y_or rfl rfl rfl rfl) ?_ | refine al_y rfl rfl (y_pick rfl rfl (fun _ => rfl) (fun _ => rfl)) ?_ | refine al_y rfl rfl (y_pick rfl rfl (fun _ => rfl) (fun h => absurd h (by decide))) ?_ | refine al_y rfl rfl (y_pick rfl rfl (fun h => absurd h (by decide)) (fun _ => rfl)) ?_
    first | refine al_y rfl rfl (y_moveV rfl rfl) ?_ | refine al_y rfl rfl (y_moveP rfl rfl) ?_ | refine al_y rfl rfl (y_moveS rfl rfl) ?_ | refine al_y rfl rfl (y_moveG rfl rfl) ?_
    first | refine al_maybe rfl rfl rfl (fun hg => y_moveV rfl rfl) ?_ | refine al_maybe rfl rfl rfl (fun hg => y_moveP rfl rfl) ?_ | refine al_maybe rfl rfl rfl (fun hg => y_moveS rfl rfl) ?_ | refine al_maybe rfl rfl rfl (fun hg => y_moveG rfl rfl) ?_ | refine al_maybe (x := .pub (.tup [])) rfl rfl rfl (fun hg => absurd hg (by decide)) ?_
    first | refine al_maybe rfl rfl rfl (fun hg => y_gtr rfl (by first | exact rfl | exact if_pos hg) rfl) ?_ | refine al_maybe rfl rfl rfl (fun hg => y_gtr rfl rfl rfl) ?_ | refine al_maybe (x := .pub (.tup [])) rfl rfl rfl (fun hg => absurd hg (by decide)) ?_
    first | refine al_y rfl rfl (y_and rfl rfl rfl rfl) ?_ | refine al_y rfl rfl (y_or rfl rfl rfl rfl) ?_ | refine al_y rfl rfl (y_pick rfl rfl (fun _ => rfl) (fun _ => rfl)) ?_ | refine al_y rfl rfl (y_pick rfl rfl (fun _ => rfl) (fun h => absurd h (by decide))) ?_ | refine al_y rfl rfl (y_pick rfl rfl (fun h => absurd h (by decide)) (fun _ => rfl)) ?_
    refine al_nil ?_
    refine qt_normal ?_
    refine ac_cond rfl (fun h1 => ?_) (fun h1 => ?_)
    · skip
      exfalso; have h := h1; simp at h; omega
    · skip
      refine ac_skip ?_
      refine qt_normal ?_
      refine ac_seq ?_
      refine ac_region ?_
      first | refine al_y rfl rfl (y_moveV rfl rfl) ?_ | refine al_y rfl rfl (y_moveP rfl rfl) ?_ | refine al_y rfl rfl (y_moveS rfl rfl) ?_ | refine al_y rfl rfl (y_moveG rfl rfl) ?_
      first | refine al_y rfl rfl (y_moveV rfl rfl) ?_ | refine al_y rfl rfl (y_moveP rfl rfl) ?_ | refine al_y rfl rfl (y_moveS rfl rfl) ?_ | refine al_y rfl rfl (y_moveG rfl rfl) ?_
      first | refine al_y rfl rfl (y_moveV rfl rfl) ?_ | refine al_y rfl rfl (y_moveP rfl rfl) ?_ | refine al_y rfl rfl (y_moveS rfl rfl) ?_ | refine al_y rfl rfl (y_moveG rfl rfl) ?_
      refine al_y rfl rfl (y_callF (av := [_, _, _]) rfl ⟨rfl, rfl, rfl, trivial⟩ (f49 l w miss (by omega) (by omega))) ?_
      first | refine al_y rfl rfl (y_assignV rfl rfl) ?_ | refine al_y rfl rfl (y_assignP rfl rfl) ?_ | refine al_y rfl rfl (y_assignS rfl rfl) ?_ | refine al_y rfl rfl (y_assignG rfl rfl) ?_
      refine al_nil ?_
      refine qt_normal ?_
      refine ac_seq ?_
      refine ac_seq ?_
      refine ac_region ?_
      first | refine al_y rfl rfl (y_moveV rfl rfl) ?_ | refine al_y rfl rfl (y_moveP rfl rfl) ?_ | refine al_y rfl rfl (y_moveS rfl rfl) ?_ | refine al_y rfl rfl (y_moveG rfl rfl) ?_
      first | refine al_y rfl rfl (y_len rfl rfl rfl Tryz.underlying23) ?_ | refine al_y rfl rfl (y_len_psl rfl rfl rfl (by simp) Tryz.underlying23) ?_ | refine al_y rfl rfl (y_len_nil rfl rfl Tryz.underlying23) ?_
      refine al_y rfl rfl (y_eql rfl rfl rfl) ?_
      refine al_nil ?_
      refine qt_normal ?_
      refine ac_cond rfl (fun h2 => ?_) (fun h2 => ?_)
      · skip
        refine ac_seq ?_
        refine ac_region ?_
        first | refine al_y rfl rfl (y_moveV rfl rfl) ?_ | refine al_y rfl rfl (y_moveP rfl rfl) ?_ | refine al_y rfl rfl (y_moveS rfl rfl) ?_ | refine al_y rfl rfl (y_moveG rfl rfl) ?_
        refine al_y rfl rfl (y_eql rfl rfl rfl) ?_
        first | refine al_y rfl rfl (y_moveV rfl rfl) ?_ | refine al_y rfl rfl (y_moveP rfl rfl) ?_ | refine al_y rfl rfl (y_moveS rfl rfl) ?_ | refine al_y rfl rfl (y_moveG rfl rfl) ?_
        first | refine al_maybe rfl rfl rfl (fun hg => y_moveV rfl rfl) ?_ | refine al_maybe rfl rfl rfl (fun hg => y_moveP rfl rfl) ?_ | refine al_maybe rfl rfl rfl (fun hg => y_moveS rfl rfl) ?_ | refine al_maybe rfl rfl rfl (fun hg => y_moveG rfl rfl) ?_ | refine al_maybe (x := .pub (.tup [])) rfl rfl rfl (fun hg => absurd hg (by decide)) ?_
        first | refine al_maybe rfl rfl rfl (fun hg => y_len rfl rfl (by first | exact rfl | exact if_pos hg) Tryz.underlying23) ?_ | refine al_maybe rfl rfl rfl (fun hg => y_len_psl rfl (by first | exact rfl | exact if_pos hg) rfl (by simp) Tryz.underlying23) ?_ | refine al_maybe rfl rfl rfl (fun hg => y_len_nil rfl (by first | exact rfl | exact if_pos hg) Tryz.underlying23) ?_ | refine al_maybe rfl rfl rfl (fun hg => y_len rfl rfl rfl Tryz.underlying23) ?_ | refine al_maybe rfl rfl rfl (fun hg => y_len_psl rfl rfl rfl (by simp) Tryz.underlying23) ?_ | refine al_maybe rfl rfl rfl (fun hg => y_len_nil rfl rfl Tryz.underlying23) ?_ | refine al_maybe (x := .pub (.tup [])) rfl rfl rfl (fun hg => absurd hg (by decide)) ?_
        first | refine al_maybe rfl rfl rfl (fun hg => y_eql rfl (by first | exact rfl | exact if_pos hg) rfl) ?_ | refine al_maybe rfl rfl rfl (fun hg => y_eql rfl rfl rfl) ?_ | refine al_maybe (x := .pub (.tup [])) rfl rfl rfl (fun hg => absurd hg (by decide)) ?_
        first | refine al_y rfl rfl (y_and rfl rfl rfl rfl) ?_ | refine al_y rfl rfl (y_or rfl rfl rfl rfl) ?_ | refine al_y rfl rfl (y_pick rfl rfl (fun _ => rfl) (fun _ => rfl)) ?_ | refine al_y rfl rfl (y_pick rfl rfl (fun _ => rfl) (fun h => absurd h (by decide))) ?_ | refine al_y rfl rfl (y_pick rfl rfl (fun h => absurd h (by decide)) (fun _ => rfl)) ?_
        first | refine al_y rfl rfl (y_moveV rfl rfl) ?_ | refine al_y rfl rfl (y_moveP rfl rfl) ?_ | refine al_y rfl rfl (y_moveS rfl rfl) ?_ | refine al_y rfl rfl (y_moveG rfl rfl) ?_
        first | refine al_maybe rfl rfl rfl (fun hg => y_callF (av := []) rfl trivial hk) ?_ | refine al_maybe (x := .pub (.tup [])) rfl rfl rfl (fun hg => absurd hg (by decide)) ?_
        first | refine al_y rfl rfl (y_and rfl rfl rfl rfl) ?_ | refine al_y rfl rfl (y_or rfl rfl rfl rfl) ?_ | refine al_y rfl rfl (y_pick rfl rfl (fun _ => rfl) (fun _ => rfl)) ?_ | refine al_y rfl rfl (y_pick rfl rfl (fun _ => rfl) (fun h => absurd h (by decide))) ?_ | refine al_y rfl rfl (y_pick rfl rfl (fun h => absurd h (by decide)) (fun _ => rfl)) ?_
        first | refine al_y rfl rfl (y_assignV rfl rfl) ?_ | refine al_y rfl rfl (y_assignP rfl rfl) ?_ | refine al_y rfl rfl (y_assignS rfl rfl) ?_ | refine al_y rfl rfl (y_assignG rfl rfl) ?_
        refine al_nil ?_
        refine qt_normal ?_
        refine ac_ret ?_
        refine qt_ret ?_
        exact ⟨.inr rfl, AVle.of (by rw [hz]; rfl)⟩
      · skip
        exfalso; rw [hz] at h2; simp [eInts] at h2

/-- isobarlaw02.WireLooks -/
theorem f9_some (hk : KN G) (l : List Ent) (w : List UInt8) (miss : Int) (hs : l.length ≤ 15) (hw : w.length ≤ 9) (hwl : ∀ e ∈ l, e.word.length ≤ 9223372036854775807) (hb : bookB l = true) (hr : ofB lokR w = true) (hm : inB miss 0 5 = true) (hz : lkA w miss l ≠ []) : ACall Tryz.prog G 9 [eBk l, eS w, ei miss] (.v (.bool true)) := by
  have hm5 := inB_iff.1 hm
  have hal := lkA_len w miss l
  have hpos := List.length_pos_iff.2 hz
  refine acall_of Tryz.func9 rfl (by kernel_rfl) rfl ?_
  refine ac_seq ?_
  refine ac_region ?_
  first | refine al_y rfl rfl (y_assignV rfl rfl) ?_ | refine al_y rfl rfl (y_assignP rfl rfl) ?_ | refine al_y rfl rfl (y_assignS rfl rfl) ?_ | refine al_y rfl rfl (y_assignG rfl rfl) ?_
  refine al_nil ?_
  refine qt_normal ?_
  refine ac_seq ?_
  refine ac_seq ?_
  refine ac_region ?_
  first | refine al_y rfl rfl (y_moveV rfl rfl) ?_ | refine al_y rfl rfl (y_moveP rfl rfl) ?_ | refine al_y rfl rfl (y_moveS rfl rfl) ?_ | refine al_y rfl rfl (y_moveG rfl rfl) ?_
  first | refine al_y rfl rfl (y_len rfl rfl rfl Tryz.underlying63) ?_ | refine al_y rfl rfl (y_len_psl rfl rfl rfl (by simp) Tryz.underlying63) ?_ | refine al_y rfl rfl (y_len_nil rfl rfl Tryz.underlying63) ?_
  refine al_y rfl rfl (y_gtr rfl rfl rfl) ?_
  first | refine al_y rfl rfl (y_moveV rfl rfl) ?_ | refine al_y rfl rfl (y_moveP rfl rfl) ?_ | refine al_y rfl rfl (y_moveS rfl rfl) ?_ | refine al_y rfl rfl (y_moveG rfl rfl) ?_
  first | refine al_maybe rfl rfl rfl (fun hg => y_moveV rfl rfl) ?_ | refine al_maybe rfl rfl rfl (fun hg => y_moveP rfl rfl) ?_ | refine al_maybe rfl rfl rfl (fun hg => y_moveS rfl rfl) ?_ | refine al_maybe rfl rfl rfl (fun hg => y_moveG rfl rfl) ?_ | refine al_maybe (x := .pub (.tup [])) rfl rfl rfl (fun hg => absurd hg (by decide)) ?_
  first | refine al_maybe rfl rfl rfl (fun hg => y_len_SL rfl (by first | exact rfl | exact if_pos hg) Tryz.underlying9) ?_ | refine al_maybe rfl rfl rfl (fun hg => y_len_str rfl (by first | exact rfl | exact if_pos hg) Tryz.underlying9) ?_ | refine al_maybe rfl rfl rfl (fun hg => y_len_SL rfl rfl Tryz.underlying9) ?_ | refine al_maybe rfl rfl rfl (fun hg => y_len_str rfl rfl Tryz.underlying9) ?_ | refine al_maybe (x := .pub (.tup [])) rfl rfl rfl (fun hg => absurd hg (by decide)) ?_
  first | refine al_maybe rfl rfl rfl (fun hg => y_gtr rfl (by first | exact rfl | exact if_pos hg) rfl) ?_ | refine al_maybe rfl rfl rfl (fun hg => y_gtr rfl rfl rfl) ?_ | refine al_maybe (x := .pub (.tup [])) rfl rfl rfl (fun hg => absurd hg (by decide)) ?_
  first | refine al_y rfl rfl (y_and rfl rfl rfl rfl) ?_ | refine al_y rfl rfl (y_or rfl rfl rfl rfl) ?_ | refine al_y rfl rfl (y_pick rfl rfl (fun _ => rfl) (fun _ => rfl)) ?_ | refine al_y rfl rfl (y_pick rfl rfl (fun _ => rfl) (fun h => absurd h (by decide))) ?_ | refine al_y rfl rfl (y_pick rfl rfl (fun h => absurd h (by decide)) (fun _ => rfl)) ?_
  refine al_nil ?_
  refine qt_normal ?_
  refine ac_cond rfl (fun h0 => ?_) (fun h0 => ?_)
  · skip
    exfalso; simp [eBk] at h0; omega
  · skip
    refine ac_skip ?_
    refine qt_normal ?_
    refine ac_seq ?_
    refine ac_region ?_
    first | refine al_y rfl rfl (y_moveV rfl rfl) ?_ | refine al_y rfl rfl (y_moveP rfl rfl) ?_ | refine al_y rfl rfl (y_moveS rfl rfl) ?_ | refine al_y rfl rfl (y_moveG rfl rfl) ?_
    first | refine al_y rfl rfl (y_moveV rfl rfl) ?_ | refine al_y rfl rfl (y_moveP rfl rfl) ?_ | refine al_y rfl rfl (y_moveS rfl rfl) ?_ | refine al_y rfl rfl (y_moveG rfl rfl) ?_
    first | refine al_y rfl rfl (y_moveV rfl rfl) ?_ | refine al_y rfl rfl (y_moveP rfl rfl) ?_ | refine al_y rfl rfl (y_moveS rfl rfl) ?_ | refine al_y rfl rfl (y_moveG rfl rfl) ?_
    refine al_y rfl rfl (y_callF (av := [_, _, _]) rfl ⟨rfl, rfl, rfl, trivial⟩ (f46n l w miss (by omega) hb hr hm hz)) ?_
    first | refine al_y rfl rfl (y_moveV rfl rfl) ?_ | refine al_y rfl rfl (y_moveP rfl rfl) ?_ | refine al_y rfl rfl (y_moveS rfl rfl) ?_ | refine al_y rfl rfl (y_moveG rfl rfl) ?_
    refine al_y rfl rfl (y_extract rfl rfl rfl) ?_
    refine al_y rfl rfl (y_extract rfl rfl rfl) ?_
    first | refine al_y rfl rfl (y_assignV rfl rfl) ?_ | refine al_y rfl rfl (y_assignP rfl rfl) ?_ | refine al_y rfl rfl (y_assignS rfl rfl) ?_ | refine al_y rfl rfl (y_assignG rfl rfl) ?_
    first | refine al_y rfl rfl (y_assignV rfl rfl) ?_ | refine al_y rfl rfl (y_assignP rfl rfl) ?_ | refine al_y rfl rfl (y_assignS rfl rfl) ?_ | refine al_y rfl rfl (y_assignG rfl rfl) ?_
    refine al_nil ?_
    refine qt_normal ?_
    refine ac_seq ?_
    refine ac_seq ?_
    refine ac_region ?_
    first | refine al_y rfl rfl (y_moveV rfl rfl) ?_ | refine al_y rfl rfl (y_moveP rfl rfl) ?_ | refine al_y rfl rfl (y_moveS rfl rfl) ?_ | refine al_y rfl rfl (y_moveG rfl rfl) ?_
    refine al_y rfl rfl (y_callF (av := [_]) rfl ⟨rfl, trivial⟩ (f47v l (by omega) hwl hb)) ?_
    refine al_y rfl rfl (y_not rfl rfl) ?_
    first | refine al_y rfl rfl (y_moveV rfl rfl) ?_ | refine al_y rfl rfl (y_moveP rfl rfl) ?_ | refine al_y rfl rfl (y_moveS rfl rfl) ?_ | refine al_y rfl rfl (y_moveG rfl rfl) ?_
    first | refine al_maybe rfl rfl rfl (fun hg => y_moveV rfl rfl) ?_ | refine al_maybe rfl rfl rfl (fun hg => y_moveP rfl rfl) ?_ | refine al_maybe rfl rfl rfl (fun hg => y_moveS rfl rfl) ?_ | refine al_maybe rfl rfl rfl (fun hg => y_moveG rfl rfl) ?_ | refine al_maybe (x := .pub (.tup [])) rfl rfl rfl (fun hg => absurd hg (by decide)) ?_
    first | refine al_maybe rfl rfl rfl (fun hg => y_callF (av := [_]) rfl ⟨(by first | exact (if_pos hg) | exact rfl), trivial⟩ (f48v w (by omega) hr)) ?_ | refine al_maybe rfl rfl rfl (fun hg => y_callF (av := [_]) rfl ⟨(by first | exact rfl | exact rfl), trivial⟩ (f48v w (by omega) hr)) ?_ | refine al_maybe (x := .pub (.tup [])) rfl rfl rfl (fun hg => absurd hg (by decide)) ?_
    first | refine al_maybe rfl rfl rfl (fun hg => y_not rfl (by first | exact rfl | exact if_pos hg)) ?_ | refine al_maybe rfl rfl rfl (fun hg => y_not rfl rfl) ?_ | refine al_maybe (x := .pub (.tup [])) rfl rfl rfl (fun hg => absurd hg (by decide)) ?_
    first | refine al_y rfl rfl (y_and rfl rfl rfl rfl) ?_ | refine al_y rfl rfl (y_or rfl rfl rfl rfl) ?_ | refine al_y rfl rfl (y_pick rfl rfl (fun _ => rfl) (fun _ => rfl)) ?_ | refine al_y rfl rfl (y_pick rfl rfl (fun _ => rfl) (fun h => absurd h (by decide))) ?_ | refine al_y rfl rfl (y_pick rfl rfl (fun h => absurd h (by decide)) (fun _ => rfl)) ?_
    first | refine al_y rfl rfl (y_moveV rfl rfl) ?_ | refine al_y rfl rfl (y_moveP rfl rfl) ?_ | refine al_y rfl rfl (y_moveS rfl rfl) ?_ | refine al_y rfl rfl (y_moveG rfl rfl) ?_
    first | refine al_maybe rfl rfl rfl (fun hg => y_moveV rfl rfl) ?_ | refine al_maybe rfl rfl rfl (fun hg => y_moveP rfl rfl) ?_ | refine al_maybe rfl rfl rfl (fun hg => y_moveS rfl rfl) ?_ | refine al_maybe rfl rfl rfl (fun hg => y_moveG rfl rfl) ?_ | refine al_maybe (x := .pub (.tup [])) rfl rfl rfl (fun hg => absurd hg (by decide)) ?_
    first | refine al_maybe rfl rfl rfl (fun hg => y_lss rfl (by first | exact rfl | exact if_pos hg) rfl) ?_ | refine al_maybe rfl rfl rfl (fun hg => y_lss rfl rfl rfl) ?_ | refine al_maybe (x := .pub (.tup [])) rfl rfl rfl (fun hg => absurd hg (by decide)) ?_
    first | refine al_y rfl rfl (y_and rfl rfl rfl rfl) ?_ | refine al_y rfl rfl (y_or rfl rfl rfl rfl) ?_ | refine al_y rfl rfl (y_pick rfl rfl (fun _ => rfl) (fun _ => rfl)) ?_ | refine al_y rfl rfl (y_pick rfl rfl (fun _ => rfl) (fun h => absurd h (by decide))) ?_ | refine al_y rfl rfl (y_pick rfl rfl (fun h => absurd h (by decide)) (fun _ => rfl)) ?_
    first | refine al_y rfl rfl (y_moveV rfl rfl) ?_ | refine al_y rfl rfl (y_moveP rfl rfl) ?_ | refine al_y rfl rfl (y_moveS rfl rfl) ?_ | refine al_y rfl rfl (y_moveG rfl rfl) ?_
    first | refine al_maybe rfl rfl rfl (fun hg => y_moveV rfl rfl) ?_ | refine al_maybe rfl rfl rfl (fun hg => y_moveP rfl rfl) ?_ | refine al_maybe rfl rfl rfl (fun hg => y_moveS rfl rfl) ?_ | refine al_maybe rfl rfl rfl (fun hg => y_moveG rfl rfl) ?_ | refine al_maybe (x := .pub (.tup [])) rfl rfl rfl (fun hg => absurd hg (by decide)) ?_
    first | refine al_maybe rfl rfl rfl (fun hg => y_gtr rfl (by first | exact rfl | exact if_pos hg) rfl) ?_ | refine al_maybe rfl rfl rfl (fun hg => y_gtr rfl rfl rfl) ?_ | refine al_maybe (x := .pub (.tup [])) rfl rfl rfl (fun hg => absurd hg (by decide)) ?_
    first | refine al_y rfl rfl (y_and rfl rfl rfl rfl) ?_ | refine al_y rfl rfl (y_or rfl rfl rfl rfl) ?_ | refine al_y rfl rfl (y_pick rfl rfl (fun _ => rfl) (fun _ => rfl)) ?_ | refine al_y rfl rfl (y_pick rfl rfl (fun _ => rfl) (fun h => absurd h (by decide))) ?_ | refine al_y rfl rfl (y_pick rfl rfl (fun h => absurd h (by decide)) (fun _ => rfl)) ?_
    refine al_nil ?_
    refine qt_normal ?_
    refine ac_cond rfl (fun h1 => ?_) (fun h1 => ?_)
    · skip
      exfalso; have h := h1; simp at h; omega
    · skip
      refine ac_skip ?_
      refine qt_normal ?_
      refine ac_seq ?_
      refine ac_region ?_
      first | refine al_y rfl rfl (y_moveV rfl rfl) ?_ | refine al_y rfl rfl (y_moveP rfl rfl) ?_ | refine al_y rfl rfl (y_moveS rfl rfl) ?_ | refine al_y rfl rfl (y_moveG rfl rfl) ?_
      first | refine al_y rfl rfl (y_moveV rfl rfl) ?_ | refine al_y rfl rfl (y_moveP rfl rfl) ?_ | refine al_y rfl rfl (y_moveS rfl rfl) ?_ | refine al_y rfl rfl (y_moveG rfl rfl) ?_
      first | refine al_y rfl rfl (y_moveV rfl rfl) ?_ | refine al_y rfl rfl (y_moveP rfl rfl) ?_ | refine al_y rfl rfl (y_moveS rfl rfl) ?_ | refine al_y rfl rfl (y_moveG rfl rfl) ?_
      refine al_y rfl rfl (y_callF (av := [_, _, _]) rfl ⟨rfl, rfl, rfl, trivial⟩ (f49 l w miss (by omega) (by omega))) ?_
      first | refine al_y rfl rfl (y_assignV rfl rfl) ?_ | refine al_y rfl rfl (y_assignP rfl rfl) ?_ | refine al_y rfl rfl (y_assignS rfl rfl) ?_ | refine al_y rfl rfl (y_assignG rfl rfl) ?_
      refine al_nil ?_
      refine qt_normal ?_
      refine ac_seq ?_
      refine ac_seq ?_
      refine ac_region ?_
      first | refine al_y rfl rfl (y_moveV rfl rfl) ?_ | refine al_y rfl rfl (y_moveP rfl rfl) ?_ | refine al_y rfl rfl (y_moveS rfl rfl) ?_ | refine al_y rfl rfl (y_moveG rfl rfl) ?_
      first | refine al_y rfl rfl (y_len rfl rfl rfl Tryz.underlying23) ?_ | refine al_y rfl rfl (y_len_psl rfl rfl rfl (by simp) Tryz.underlying23) ?_ | refine al_y rfl rfl (y_len_nil rfl rfl Tryz.underlying23) ?_
      refine al_y rfl rfl (y_eql rfl rfl rfl) ?_
      refine al_nil ?_
      refine qt_normal ?_
      refine ac_cond rfl (fun h2 => ?_) (fun h2 => ?_)
      · skip
        exfalso; simp [eInts] at h2; first | exact hz h2 | omega
      · skip
        refine ac_skip ?_
        refine qt_normal ?_
        refine ac_seq ?_
        refine ac_region ?_
        first | refine al_y rfl rfl (y_moveV rfl rfl) ?_ | refine al_y rfl rfl (y_moveP rfl rfl) ?_ | refine al_y rfl rfl (y_moveS rfl rfl) ?_ | refine al_y rfl rfl (y_moveG rfl rfl) ?_
        refine al_y rfl rfl (y_eql rfl rfl rfl) ?_
        first | refine al_y rfl rfl (y_moveV rfl rfl) ?_ | refine al_y rfl rfl (y_moveP rfl rfl) ?_ | refine al_y rfl rfl (y_moveS rfl rfl) ?_ | refine al_y rfl rfl (y_moveG rfl rfl) ?_
        first | refine al_maybe rfl rfl rfl (fun hg => y_moveV rfl rfl) ?_ | refine al_maybe rfl rfl rfl (fun hg => y_moveP rfl rfl) ?_ | refine al_maybe rfl rfl rfl (fun hg => y_moveS rfl rfl) ?_ | refine al_maybe rfl rfl rfl (fun hg => y_moveG rfl rfl) ?_ | refine al_maybe (x := .pub (.tup [])) rfl rfl rfl (fun hg => absurd hg (by decide)) ?_
        first | refine al_maybe rfl rfl rfl (fun hg => y_moveV rfl rfl) ?_ | refine al_maybe rfl rfl rfl (fun hg => y_moveP rfl rfl) ?_ | refine al_maybe rfl rfl rfl (fun hg => y_moveS rfl rfl) ?_ | refine al_maybe rfl rfl rfl (fun hg => y_moveG rfl rfl) ?_ | refine al_maybe (x := .pub (.tup [])) rfl rfl rfl (fun hg => absurd hg (by decide)) ?_
        first | refine al_maybe rfl rfl rfl (fun hg => y_callF (av := [_, _]) rfl ⟨(by first | exact (if_pos hg) | exact rfl), (by first | exact (if_pos hg) | exact rfl), trivial⟩ (f39t _ (by omega))) ?_ | refine al_maybe rfl rfl rfl (fun hg => y_callF (av := [_, _]) rfl ⟨(by first | exact rfl | exact rfl), (by first | exact rfl | exact rfl), trivial⟩ (f39t _ (by omega))) ?_ | refine al_maybe (x := .pub (.tup [])) rfl rfl rfl (fun hg => absurd hg (by decide)) ?_
        first | refine al_y rfl rfl (y_and rfl rfl rfl rfl) ?_ | refine al_y rfl rfl (y_or rfl rfl rfl rfl) ?_ | refine al_y rfl rfl (y_pick rfl rfl (fun _ => rfl) (fun _ => rfl)) ?_ | refine al_y rfl rfl (y_pick rfl rfl (fun _ => rfl) (fun h => absurd h (by decide))) ?_ | refine al_y rfl rfl (y_pick rfl rfl (fun h => absurd h (by decide)) (fun _ => rfl)) ?_
        first | refine al_y rfl rfl (y_moveV rfl rfl) ?_ | refine al_y rfl rfl (y_moveP rfl rfl) ?_ | refine al_y rfl rfl (y_moveS rfl rfl) ?_ | refine al_y rfl rfl (y_moveG rfl rfl) ?_
        first | refine al_maybe rfl rfl rfl (fun hg => y_callF (av := []) rfl trivial hk) ?_ | refine al_maybe (x := .pub (.tup [])) rfl rfl rfl (fun hg => absurd hg (by decide)) ?_
        first | refine al_y rfl rfl (y_and rfl rfl rfl rfl) ?_ | refine al_y rfl rfl (y_or rfl rfl rfl rfl) ?_ | refine al_y rfl rfl (y_pick rfl rfl (fun _ => rfl) (fun _ => rfl)) ?_ | refine al_y rfl rfl (y_pick rfl rfl (fun _ => rfl) (fun h => absurd h (by decide))) ?_ | refine al_y rfl rfl (y_pick rfl rfl (fun h => absurd h (by decide)) (fun _ => rfl)) ?_
        first | refine al_y rfl rfl (y_assignV rfl rfl) ?_ | refine al_y rfl rfl (y_assignP rfl rfl) ?_ | refine al_y rfl rfl (y_assignS rfl rfl) ?_ | refine al_y rfl rfl (y_assignG rfl rfl) ?_
        refine al_nil ?_
        refine qt_normal ?_
        refine ac_ret ?_
        exact ⟨.inr rfl, AVle.refl _⟩

theorem f9 (hk : KN G) (l : List Ent) (w : List UInt8) (miss : Int) (hwl : ∀ e ∈ l, e.word.length ≤ 9223372036854775807) : ACall Tryz.prog G 9 [eBk l, eS w, ei miss] (.v (.bool true)) := by
  by_cases hs : l.length ≤ 15 ∧ w.length ≤ 9
  · obtain ⟨hs, hw⟩ := hs
    cases hb : bookB l with
    | false => exact f9_book hk l w miss hs hw hwl hb
    | true => cases hr : ofB lokR w with
      | false => exact f9_word hk l w miss hs hw hwl hb hr
      | true => cases hm : inB miss 0 5 with
        | false => exact f9_miss hk l w miss hs hw hwl hb hr hm
        | true =>
          by_cases hz : lkA w miss l = []
          · exact f9_none hk l w miss hs hw hwl hb hr hm hz
          · exact f9_some hk l w miss hs hw hwl hb hr hm hz
  · exact f9_far hk l w miss hs
end Go.Av
end
