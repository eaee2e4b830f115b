/- ChartReads. -/
import Derived.Test.YtdjncbjfejdamaaGreatDoorStE
set_option linter.unusedVariables false
set_option linter.unusedSimpArgs false
section
namespace Go.Av
open Go.Proofs
set_option maxRecDepth 100000
set_option maxHeartbeats 1000000
set_option linter.unusedSimpArgs false
variable {G : Glob}

theorem flat_take {W : Nat} : ∀ (vs : List (List Int)) (k : Nat), (∀ l ∈ vs, l.length = W) → vs.flatten.take (k * W) = (vs.take k).flatten
  | [], k, _ => by simp
  | v :: vs, 0, _ => by simp
  | v :: vs, k + 1, h => by
    have hv := h v (List.mem_cons_self ..)
    rw [List.flatten_cons, List.take_succ_cons, List.flatten_cons, Nat.add_mul, Nat.one_mul, Nat.add_comm, ← hv, List.take_length_add_append, hv, flat_take vs k fun l hl => h l (List.mem_cons_of_mem _ hl)]
theorem flat_drop {W : Nat} : ∀ (vs : List (List Int)) (k : Nat), (∀ l ∈ vs, l.length = W) → vs.flatten.drop (k * W) = (vs.drop k).flatten
  | [], k, _ => by simp
  | v :: vs, 0, _ => by simp
  | v :: vs, k + 1, h => by
    have hv := h v (List.mem_cons_self ..)
    rw [List.flatten_cons, List.drop_succ_cons, Nat.add_mul, Nat.one_mul, Nat.add_comm, ← hv, List.drop_length_add_append, hv, flat_drop vs k fun l hl => h l (List.mem_cons_of_mem _ hl)]
theorem flat_length {W : Nat} : ∀ (vs : List (List Int)), (∀ l ∈ vs, l.length = W) → vs.flatten.length = vs.length * W
  | [], _ => by simp
  | v :: vs, h => by
    rw [List.flatten_cons, List.length_append, flat_length vs fun l hl => h l (List.mem_cons_of_mem _ hl), h v (List.mem_cons_self ..), List.length_cons, Nat.add_mul]; omega
theorem chunks_back {W : Nat} (hW : 1 ≤ W) {vs : List (List Int)} (h : ∀ l ∈ vs, l.length = W) : chunks ⟨(W : Int), vs.flatten⟩ = vs := by
  unfold chunks rowsOf
  simp only
  rw [flat_length vs h, Int.natCast_mul, Int.mul_ediv_cancel _ (by omega), Int.toNat_natCast]
  apply List.ext_getElem?
  intro i
  rw [List.getElem?_map]
  by_cases hi : i < vs.length
  · rw [List.getElem?_range hi, List.getElem?_eq_getElem hi, Option.map_some]
    congr 1
    unfold chunkI
    simp only
    rw [toNat_mul (by omega), toNat_mul1 (by omega), Int.toNat_natCast, flat_take vs _ h, flat_drop _ _ (fun l hl => h l (List.mem_of_mem_take hl)), List.take_succ_eq_append_getElem hi, List.drop_append_of_le_length (by simp; omega), List.drop_of_length_le (by simp; omega)]
    simp
  · rw [List.getElem?_eq_none (by simp; omega), List.getElem?_eq_none (by omega)]; rfl
/-- What is read is printed the same. -/
theorem print_read {s : List UInt8} {f : Fld} (hr : readP s = some f) (hf : fieldB f = true) : printL f = s := by
  obtain ⟨hok, e⟩ := read_ok hr
  obtain ⟨_, _, hv⟩ := lines_ok hok
  have b := fld_bd hf
  have hw : f.wide = wideOf s := by rw [e]; rfl
  obtain ⟨W, hW⟩ : ∃ W : Nat, wideOf s = (W : Int) := ⟨(wideOf s).toNat, by omega⟩
  have hc : chunks f = valsOf s := by
    rw [e]; unfold fldOfS; rw [hW]
    exact chunks_back (by omega) fun l hl => by have := (hv l hl).1; omega
  unfold printL
  rw [hc, hw]
  unfold readOK at hok
  simp only [Bool.and_eq_true, beq_iff_eq] at hok
  exact hok.2
theorem f59_any (s : List UInt8) (hl : s.length ≤ 990) : ∃ b, ACall Tryz.prog G 59 [eS s] (.tup [.agg [.top, .top], .v (.bool b)]) := by
  rcases f59 (G := G) s hl with ⟨_, h⟩ | ⟨f, _, h⟩
  · exact ⟨_, h⟩
  · refine ⟨true, h.sub (by simp only [AVleL]; exact ⟨_, _, rfl, AVle.refl _, rfl⟩) (AVle.tup ?_)⟩
    simp only [AVleL]
    exact ⟨_, _, rfl, AVle.agg (by unfold eFld; simp only [AVleL]; exact ⟨_, _, rfl, AVle.top _, _, _, rfl, AVle.top _, rfl⟩), _, _, rfl, AVle.refl _, rfl⟩

/-- isobarlaw03.ChartReads -/
theorem f18_triv (hkn : KN GT) (s : List UInt8) (hl : 500 < s.length) : ACall Tryz.prog GT 18 [eS s] (.v (.bool true)) := by
  refine acall_of Tryz.func18 rfl (by kernel_rfl) rfl ?_
  refine ac_seq ?_
  refine ac_region ?_
  refine al_y rfl rfl (y_assignV rfl rfl) ?_
  refine al_nil ?_
  refine qt_normal ?_
  refine ac_seq ?_
  refine ac_seq ?_
  refine ac_region ?_
  refine al_y rfl rfl (y_moveV rfl rfl) ?_
  refine al_y rfl rfl (y_len_SL rfl rfl Tryz.underlying9) ?_
  refine al_y rfl rfl (y_gtr rfl rfl rfl) ?_
  refine al_nil ?_
  refine qt_normal ?_
  refine ac_cond rfl (fun h0 => ?_) (fun h0 => ?_)
  · skip
    refine ac_seq ?_
    refine ac_region ?_
    refine al_y rfl rfl (y_callF (av := []) rfl trivial hkn) ?_
    refine al_y rfl rfl (y_assignV rfl rfl) ?_
    refine al_nil ?_
    refine qt_normal ?_
    refine ac_ret ?_
    refine qt_ret ?_
    exact ⟨.inr rfl, AVle.refl _⟩
  · skip
    exfalso; simp at h0; omega

/-- isobarlaw03.ChartReads -/
theorem f18_long (hkn : KN GT) (s : List UInt8) (hl : 400 < s.length) (hl2 : s.length ≤ 500) {b : Bool} (c59 : ACall Tryz.prog GT 59 [eS s] (.tup [.agg [.top, .top], .v (.bool b)])) : ACall Tryz.prog GT 18 [eS s] (.v (.bool true)) := by
  refine acall_of Tryz.func18 rfl (by kernel_rfl) rfl ?_
  refine ac_seq ?_
  refine ac_region ?_
  refine al_y rfl rfl (y_assignV rfl rfl) ?_
  refine al_nil ?_
  refine qt_normal ?_
  refine ac_seq ?_
  refine ac_seq ?_
  refine ac_region ?_
  refine al_y rfl rfl (y_moveV rfl rfl) ?_
  refine al_y rfl rfl (y_len_SL rfl rfl Tryz.underlying9) ?_
  refine al_y rfl rfl (y_gtr rfl rfl rfl) ?_
  refine al_nil ?_
  refine qt_normal ?_
  refine ac_cond rfl (fun h0 => ?_) (fun h0 => ?_)
  · skip
    exfalso; simp at h0; omega
  · skip
    refine ac_skip ?_
    refine qt_normal ?_
    refine ac_seq ?_
    refine ac_region ?_
    refine al_y rfl rfl (y_moveV rfl rfl) ?_
    refine al_y rfl rfl (y_callF (av := [_]) rfl ⟨rfl, trivial⟩ (f57_long s hl)) ?_
    refine al_y rfl rfl (y_moveP rfl rfl) ?_
    refine al_y rfl rfl (y_extract rfl rfl rfl) ?_
    refine al_y rfl rfl (y_extract rfl rfl rfl) ?_
    refine al_pair  rfl rfl rfl rfl rfl rfl rfl zv29 ty29 rfl (by rfl) (cE_agg rfl) rfl ?_
    refine al_y rfl rfl (y_assignV rfl rfl) ?_
    refine al_nil ?_
    refine qt_normal ?_
    refine ac_seq ?_
    refine ac_region ?_
    refine al_y rfl rfl (y_moveV rfl rfl) ?_
    refine al_y rfl rfl (y_callF (av := [_]) rfl ⟨rfl, trivial⟩ c59) ?_
    refine al_y rfl rfl (y_moveP rfl rfl) ?_
    refine al_y rfl rfl (y_extract rfl rfl rfl) ?_
    refine al_y rfl rfl (y_extract rfl rfl rfl) ?_
    refine al_pair  rfl rfl rfl rfl rfl rfl rfl zv29 ty29 rfl (by rfl) (cE_agg rfl) rfl ?_
    refine al_y rfl rfl (y_assignV rfl rfl) ?_
    refine al_nil ?_
    refine qt_normal ?_
    refine ac_seq ?_
    refine ac_region ?_
    refine al_y rfl rfl (y_assignV rfl rfl) ?_
    refine al_nil ?_
    refine qt_normal ?_
    refine ac_seq ?_
    refine ac_seq ?_
    refine ac_region ?_
    refine al_y rfl rfl (y_moveV rfl rfl) ?_
    refine al_y rfl rfl (y_len_SL rfl rfl Tryz.underlying9) ?_
    refine al_y rfl rfl (y_gtr rfl rfl rfl) ?_
    refine al_nil ?_
    refine qt_normal ?_
    refine ac_cond rfl (fun h1 => ?_) (fun h1 => ?_)
    · skip
      refine ac_region ?_
      refine al_y rfl rfl (y_assignV rfl rfl) ?_
      refine al_nil ?_
      refine qt_normal ?_
      refine ac_seq ?_
      refine ac_seq ?_
      refine ac_region ?_
      refine al_y rfl rfl (y_moveV rfl rfl) ?_
      refine al_y rfl rfl (y_neq rfl rfl rfl) ?_
      refine al_nil ?_
      refine qt_normal ?_
      refine ac_cond rfl (fun h4 => ?_) (fun h4 => ?_)
      · skip
        refine ac_seq ?_
        refine ac_region ?_
        refine al_y rfl rfl (y_moveV rfl rfl) ?_
        refine al_y rfl rfl (y_moveV rfl rfl) ?_
        refine al_y rfl rfl (y_eql rfl rfl rfl) ?_
        refine al_y rfl rfl (y_moveV rfl rfl) ?_
        refine al_maybe rfl rfl rfl (fun hg => y_loadN rfl rfl ty29 (by exact Nat.le_of_ble_eq_true rfl)) ?_
        refine al_maybe rfl rfl rfl (fun hg => y_build (cs := [_, _]) rfl st29 rfl rfl (by rfl) (by simp [ofV])) ?_
        refine al_maybe rfl rfl rfl (fun hg => y_callF (av := [_, _]) rfl ⟨(rfl), (rfl), trivial⟩ (f24z zFld (by simp [zFld]))) ?_
        refine al_y rfl rfl (y_and rfl rfl rfl rfl) ?_
        refine al_y rfl rfl (y_moveV rfl rfl) ?_
        refine al_maybe rfl rfl rfl (fun hg => y_callF (av := []) rfl trivial hkn) ?_
        refine al_y rfl rfl (y_and rfl rfl rfl rfl) ?_
        refine al_y rfl rfl (y_assignV rfl rfl) ?_
        refine al_nil ?_
        refine qt_normal ?_
        refine ac_ret ?_
        refine qt_ret ?_
        exact ⟨.inr rfl, AVle.of (by simp [same_self])⟩
      · skip
        exfalso; simp at h4
    · skip
      exfalso; simp at h1; omega

/-- isobarlaw03.ChartReads -/
theorem f18_none (hkn : KN GT) (s : List UInt8) (hl : s.length ≤ 400) (hr : readP s = none) (c59 : ACall Tryz.prog GT 59 [eS s] (.tup [.agg [.top, .top], .v (.bool false)])) : ACall Tryz.prog GT 18 [eS s] (.v (.bool true)) := by
  refine acall_of Tryz.func18 rfl (by kernel_rfl) rfl ?_
  refine ac_seq ?_
  refine ac_region ?_
  refine al_y rfl rfl (y_assignV rfl rfl) ?_
  refine al_nil ?_
  refine qt_normal ?_
  refine ac_seq ?_
  refine ac_seq ?_
  refine ac_region ?_
  refine al_y rfl rfl (y_moveV rfl rfl) ?_
  refine al_y rfl rfl (y_len_SL rfl rfl Tryz.underlying9) ?_
  refine al_y rfl rfl (y_gtr rfl rfl rfl) ?_
  refine al_nil ?_
  refine qt_normal ?_
  refine ac_cond rfl (fun h0 => ?_) (fun h0 => ?_)
  · skip
    exfalso; simp at h0; omega
  · skip
    refine ac_skip ?_
    refine qt_normal ?_
    refine ac_seq ?_
    refine ac_region ?_
    refine al_y rfl rfl (y_moveV rfl rfl) ?_
    refine al_y rfl rfl (y_callF (av := [_]) rfl ⟨rfl, trivial⟩ (f57_none s hl hr)) ?_
    refine al_y rfl rfl (y_moveP rfl rfl) ?_
    refine al_y rfl rfl (y_extract rfl rfl rfl) ?_
    refine al_y rfl rfl (y_extract rfl rfl rfl) ?_
    refine al_pair  rfl rfl rfl rfl rfl rfl rfl zv29 ty29 rfl (by rfl) (cE_agg rfl) rfl ?_
    refine al_y rfl rfl (y_assignV rfl rfl) ?_
    refine al_nil ?_
    refine qt_normal ?_
    refine ac_seq ?_
    refine ac_region ?_
    refine al_y rfl rfl (y_moveV rfl rfl) ?_
    refine al_y rfl rfl (y_callF (av := [_]) rfl ⟨rfl, trivial⟩ c59) ?_
    refine al_y rfl rfl (y_moveP rfl rfl) ?_
    refine al_y rfl rfl (y_extract rfl rfl rfl) ?_
    refine al_y rfl rfl (y_extract rfl rfl rfl) ?_
    refine al_pair  rfl rfl rfl rfl rfl rfl rfl zv29 ty29 rfl (by rfl) (cE_agg rfl) rfl ?_
    refine al_y rfl rfl (y_assignV rfl rfl) ?_
    refine al_nil ?_
    refine qt_normal ?_
    refine ac_seq ?_
    refine ac_region ?_
    refine al_y rfl rfl (y_assignV rfl rfl) ?_
    refine al_nil ?_
    refine qt_normal ?_
    refine ac_seq ?_
    refine ac_seq ?_
    refine ac_region ?_
    refine al_y rfl rfl (y_moveV rfl rfl) ?_
    refine al_y rfl rfl (y_len_SL rfl rfl Tryz.underlying9) ?_
    refine al_y rfl rfl (y_gtr rfl rfl rfl) ?_
    refine al_nil ?_
    refine qt_normal ?_
    refine ac_cond rfl (fun h1 => ?_) (fun h1 => ?_)
    · skip
      exfalso; simp at h1; omega
    · skip
      refine ac_seq ?_
      refine ac_region ?_
      refine al_y rfl rfl (y_moveV rfl rfl) ?_
      refine al_y rfl rfl (y_not rfl rfl) ?_
      refine al_nil ?_
      refine qt_normal ?_
      refine ac_cond rfl (fun h2 => ?_) (fun h2 => ?_)
      · skip
        refine ac_region ?_
        refine al_y rfl rfl (y_assignV rfl rfl) ?_
        refine al_nil ?_
        refine qt_normal ?_
        refine ac_seq ?_
        refine ac_seq ?_
        refine ac_region ?_
        refine al_y rfl rfl (y_moveV rfl rfl) ?_
        refine al_y rfl rfl (y_neq rfl rfl rfl) ?_
        refine al_nil ?_
        refine qt_normal ?_
        refine ac_cond rfl (fun h4 => ?_) (fun h4 => ?_)
        · skip
          refine ac_seq ?_
          refine ac_region ?_
          refine al_y rfl rfl (y_moveV rfl rfl) ?_
          refine al_y rfl rfl (y_moveV rfl rfl) ?_
          refine al_y rfl rfl (y_eql rfl rfl rfl) ?_
          refine al_y rfl rfl (y_moveV rfl rfl) ?_
          refine al_maybe rfl rfl rfl (fun hg => y_loadN rfl rfl ty29 (by exact Nat.le_of_ble_eq_true rfl)) ?_
          refine al_maybe rfl rfl rfl (fun hg => y_build (cs := [_, _]) rfl st29 rfl rfl (by rfl) (by simp [ofV])) ?_
          refine al_maybe rfl rfl rfl (fun hg => y_callF (av := [_, _]) rfl ⟨(rfl), (rfl), trivial⟩ (f24z zFld (by simp [zFld]))) ?_
          refine al_y rfl rfl (y_and rfl rfl rfl rfl) ?_
          refine al_y rfl rfl (y_moveV rfl rfl) ?_
          refine al_maybe rfl rfl rfl (fun hg => y_callF (av := []) rfl trivial hkn) ?_
          refine al_y rfl rfl (y_and rfl rfl rfl rfl) ?_
          refine al_y rfl rfl (y_assignV rfl rfl) ?_
          refine al_nil ?_
          refine qt_normal ?_
          refine ac_ret ?_
          refine qt_ret ?_
          exact ⟨.inr rfl, AVle.of (by simp [same_self])⟩
        · skip
          exfalso; simp at h4
      · skip
        exfalso; simp at h2

/-- isobarlaw03.ChartReads -/
theorem f18_shape (hkn : KN GT) (s : List UInt8) (hl : s.length ≤ 400) {f : Fld} (hr : readP s = some f) (c59 : ACall Tryz.prog GT 59 [eS s] (.tup [.agg (eFld f), .v (.bool true)])) (hs : shapeB f = false) : ACall Tryz.prog GT 18 [eS s] (.v (.bool true)) := by
  have hfl : f.vals.length ≤ 1000 := by have := read_len hr; omega
  have hf : fieldB f = false := by unfold fieldB; rw [hs]; rfl
  refine acall_of Tryz.func18 rfl (by kernel_rfl) rfl ?_
  refine ac_seq ?_
  refine ac_region ?_
  refine al_y rfl rfl (y_assignV rfl rfl) ?_
  refine al_nil ?_
  refine qt_normal ?_
  refine ac_seq ?_
  refine ac_seq ?_
  refine ac_region ?_
  refine al_y rfl rfl (y_moveV rfl rfl) ?_
  refine al_y rfl rfl (y_len_SL rfl rfl Tryz.underlying9) ?_
  refine al_y rfl rfl (y_gtr rfl rfl rfl) ?_
  refine al_nil ?_
  refine qt_normal ?_
  refine ac_cond rfl (fun h0 => ?_) (fun h0 => ?_)
  · skip
    exfalso; simp at h0; omega
  · skip
    refine ac_skip ?_
    refine qt_normal ?_
    refine ac_seq ?_
    refine ac_region ?_
    refine al_y rfl rfl (y_moveV rfl rfl) ?_
    refine al_y rfl rfl (y_callF (av := [_]) rfl ⟨rfl, trivial⟩ (f57_shape s hl hr hs)) ?_
    refine al_y rfl rfl (y_moveP rfl rfl) ?_
    refine al_y rfl rfl (y_extract rfl rfl rfl) ?_
    refine al_y rfl rfl (y_extract rfl rfl rfl) ?_
    refine al_pair  rfl rfl rfl rfl rfl rfl rfl zv29 ty29 rfl (by rfl) (cE_agg rfl) rfl ?_
    refine al_y rfl rfl (y_assignV rfl rfl) ?_
    refine al_nil ?_
    refine qt_normal ?_
    refine ac_seq ?_
    refine ac_region ?_
    refine al_y rfl rfl (y_moveV rfl rfl) ?_
    refine al_y rfl rfl (y_callF (av := [_]) rfl ⟨rfl, trivial⟩ c59) ?_
    refine al_y rfl rfl (y_moveP rfl rfl) ?_
    refine al_y rfl rfl (y_extract rfl rfl rfl) ?_
    refine al_y rfl rfl (y_extract rfl rfl rfl) ?_
    refine al_pair  rfl rfl rfl rfl rfl rfl rfl zv29 ty29 rfl (by rfl) (cE_agg rfl) rfl ?_
    refine al_y rfl rfl (y_assignV rfl rfl) ?_
    refine al_nil ?_
    refine qt_normal ?_
    refine ac_seq ?_
    refine ac_region ?_
    refine al_y rfl rfl (y_assignV rfl rfl) ?_
    refine al_nil ?_
    refine qt_normal ?_
    refine ac_seq ?_
    refine ac_seq ?_
    refine ac_region ?_
    refine al_y rfl rfl (y_moveV rfl rfl) ?_
    refine al_y rfl rfl (y_len_SL rfl rfl Tryz.underlying9) ?_
    refine al_y rfl rfl (y_gtr rfl rfl rfl) ?_
    refine al_nil ?_
    refine qt_normal ?_
    refine ac_cond rfl (fun h1 => ?_) (fun h1 => ?_)
    · skip
      exfalso; simp at h1; omega
    · skip
      refine ac_seq ?_
      refine ac_region ?_
      refine al_y rfl rfl (y_moveV rfl rfl) ?_
      refine al_y rfl rfl (y_not rfl rfl) ?_
      refine al_nil ?_
      refine qt_normal ?_
      refine ac_cond rfl (fun h2 => ?_) (fun h2 => ?_)
      · skip
        exfalso; simp at h2
      · skip
        refine ac_seq ?_
        refine ac_region ?_
        refine al_y rfl rfl (y_loadN rfl rfl ty29 (by exact Nat.le_of_ble_eq_true rfl)) ?_
        refine al_y rfl rfl (y_callF (av := [_]) rfl ⟨rfl, trivial⟩ (f28 f hfl)) ?_
        refine al_y rfl rfl (y_not rfl rfl) ?_
        refine al_nil ?_
        refine qt_normal ?_
        refine ac_cond rfl (fun h3 => ?_) (fun h3 => ?_)
        · skip
          refine ac_region ?_
          refine al_y rfl rfl (y_assignV rfl rfl) ?_
          refine al_nil ?_
          refine qt_normal ?_
          refine ac_seq ?_
          refine ac_seq ?_
          refine ac_region ?_
          refine al_y rfl rfl (y_moveV rfl rfl) ?_
          refine al_y rfl rfl (y_neq rfl rfl rfl) ?_
          refine al_nil ?_
          refine qt_normal ?_
          refine ac_cond rfl (fun h4 => ?_) (fun h4 => ?_)
          · skip
            refine ac_seq ?_
            refine ac_region ?_
            refine al_y rfl rfl (y_moveV rfl rfl) ?_
            refine al_y rfl rfl (y_moveV rfl rfl) ?_
            refine al_y rfl rfl (y_eql rfl rfl rfl) ?_
            refine al_y rfl rfl (y_moveV rfl rfl) ?_
            refine al_maybe rfl rfl rfl (fun hg => y_loadN rfl rfl ty29 (by exact Nat.le_of_ble_eq_true rfl)) ?_
            refine al_maybe rfl rfl rfl (fun hg => y_build (cs := [_, _]) rfl st29 rfl rfl (by rfl) (by simp [ofV])) ?_
            refine al_maybe rfl rfl rfl (fun hg => y_callF (av := [_, _]) rfl ⟨(rfl), (rfl), trivial⟩ (f24z zFld (by simp [zFld]))) ?_
            refine al_y rfl rfl (y_and rfl rfl rfl rfl) ?_
            refine al_y rfl rfl (y_moveV rfl rfl) ?_
            refine al_maybe rfl rfl rfl (fun hg => y_callF (av := []) rfl trivial hkn) ?_
            refine al_y rfl rfl (y_and rfl rfl rfl rfl) ?_
            refine al_y rfl rfl (y_assignV rfl rfl) ?_
            refine al_nil ?_
            refine qt_normal ?_
            refine ac_ret ?_
            refine qt_ret ?_
            exact ⟨.inr rfl, AVle.of (by simp [same_self])⟩
          · skip
            exfalso; simp at h4
        · skip
          exfalso; simp [hf] at h3

/-- isobarlaw03.ChartReads -/
theorem f18_vals (hkn : KN GT) (s : List UInt8) (hl : s.length ≤ 400) {f : Fld} (hr : readP s = some f) (c59 : ACall Tryz.prog GT 59 [eS s] (.tup [.agg (eFld f), .v (.bool true)])) (hs : shapeB f = true) (hv : valsB f = false) : ACall Tryz.prog GT 18 [eS s] (.v (.bool true)) := by
  have hfl : f.vals.length ≤ 1000 := by have := read_len hr; omega
  have hf : fieldB f = false := by unfold fieldB; rw [hv]; simp
  refine acall_of Tryz.func18 rfl (by kernel_rfl) rfl ?_
  refine ac_seq ?_
  refine ac_region ?_
  refine al_y rfl rfl (y_assignV rfl rfl) ?_
  refine al_nil ?_
  refine qt_normal ?_
  refine ac_seq ?_
  refine ac_seq ?_
  refine ac_region ?_
  refine al_y rfl rfl (y_moveV rfl rfl) ?_
  refine al_y rfl rfl (y_len_SL rfl rfl Tryz.underlying9) ?_
  refine al_y rfl rfl (y_gtr rfl rfl rfl) ?_
  refine al_nil ?_
  refine qt_normal ?_
  refine ac_cond rfl (fun h0 => ?_) (fun h0 => ?_)
  · skip
    exfalso; simp at h0; omega
  · skip
    refine ac_skip ?_
    refine qt_normal ?_
    refine ac_seq ?_
    refine ac_region ?_
    refine al_y rfl rfl (y_moveV rfl rfl) ?_
    refine al_y rfl rfl (y_callF (av := [_]) rfl ⟨rfl, trivial⟩ (f57_vals s hl hr hs hv)) ?_
    refine al_y rfl rfl (y_moveP rfl rfl) ?_
    refine al_y rfl rfl (y_extract rfl rfl rfl) ?_
    refine al_y rfl rfl (y_extract rfl rfl rfl) ?_
    refine al_pair  rfl rfl rfl rfl rfl rfl rfl zv29 ty29 rfl (by rfl) (cE_agg rfl) rfl ?_
    refine al_y rfl rfl (y_assignV rfl rfl) ?_
    refine al_nil ?_
    refine qt_normal ?_
    refine ac_seq ?_
    refine ac_region ?_
    refine al_y rfl rfl (y_moveV rfl rfl) ?_
    refine al_y rfl rfl (y_callF (av := [_]) rfl ⟨rfl, trivial⟩ c59) ?_
    refine al_y rfl rfl (y_moveP rfl rfl) ?_
    refine al_y rfl rfl (y_extract rfl rfl rfl) ?_
    refine al_y rfl rfl (y_extract rfl rfl rfl) ?_
    refine al_pair  rfl rfl rfl rfl rfl rfl rfl zv29 ty29 rfl (by rfl) (cE_agg rfl) rfl ?_
    refine al_y rfl rfl (y_assignV rfl rfl) ?_
    refine al_nil ?_
    refine qt_normal ?_
    refine ac_seq ?_
    refine ac_region ?_
    refine al_y rfl rfl (y_assignV rfl rfl) ?_
    refine al_nil ?_
    refine qt_normal ?_
    refine ac_seq ?_
    refine ac_seq ?_
    refine ac_region ?_
    refine al_y rfl rfl (y_moveV rfl rfl) ?_
    refine al_y rfl rfl (y_len_SL rfl rfl Tryz.underlying9) ?_
    refine al_y rfl rfl (y_gtr rfl rfl rfl) ?_
    refine al_nil ?_
    refine qt_normal ?_
    refine ac_cond rfl (fun h1 => ?_) (fun h1 => ?_)
    · skip
      exfalso; simp at h1; omega
    · skip
      refine ac_seq ?_
      refine ac_region ?_
      refine al_y rfl rfl (y_moveV rfl rfl) ?_
      refine al_y rfl rfl (y_not rfl rfl) ?_
      refine al_nil ?_
      refine qt_normal ?_
      refine ac_cond rfl (fun h2 => ?_) (fun h2 => ?_)
      · skip
        exfalso; simp at h2
      · skip
        refine ac_seq ?_
        refine ac_region ?_
        refine al_y rfl rfl (y_loadN rfl rfl ty29 (by exact Nat.le_of_ble_eq_true rfl)) ?_
        refine al_y rfl rfl (y_callF (av := [_]) rfl ⟨rfl, trivial⟩ (f28 f hfl)) ?_
        refine al_y rfl rfl (y_not rfl rfl) ?_
        refine al_nil ?_
        refine qt_normal ?_
        refine ac_cond rfl (fun h3 => ?_) (fun h3 => ?_)
        · skip
          refine ac_region ?_
          refine al_y rfl rfl (y_assignV rfl rfl) ?_
          refine al_nil ?_
          refine qt_normal ?_
          refine ac_seq ?_
          refine ac_seq ?_
          refine ac_region ?_
          refine al_y rfl rfl (y_moveV rfl rfl) ?_
          refine al_y rfl rfl (y_neq rfl rfl rfl) ?_
          refine al_nil ?_
          refine qt_normal ?_
          refine ac_cond rfl (fun h4 => ?_) (fun h4 => ?_)
          · skip
            refine ac_seq ?_
            refine ac_region ?_
            refine al_y rfl rfl (y_moveV rfl rfl) ?_
            refine al_y rfl rfl (y_moveV rfl rfl) ?_
            refine al_y rfl rfl (y_eql rfl rfl rfl) ?_
            refine al_y rfl rfl (y_moveV rfl rfl) ?_
            refine al_maybe rfl rfl rfl (fun hg => y_loadN rfl rfl ty29 (by exact Nat.le_of_ble_eq_true rfl)) ?_
            refine al_maybe rfl rfl rfl (fun hg => y_build (cs := [_, _]) rfl st29 rfl rfl (by rfl) (by simp [ofV])) ?_
            refine al_maybe rfl rfl rfl (fun hg => y_callF (av := [_, _]) rfl ⟨(rfl), (rfl), trivial⟩ (f24z zFld (by simp [zFld]))) ?_
            refine al_y rfl rfl (y_and rfl rfl rfl rfl) ?_
            refine al_y rfl rfl (y_moveV rfl rfl) ?_
            refine al_maybe rfl rfl rfl (fun hg => y_callF (av := []) rfl trivial hkn) ?_
            refine al_y rfl rfl (y_and rfl rfl rfl rfl) ?_
            refine al_y rfl rfl (y_assignV rfl rfl) ?_
            refine al_nil ?_
            refine qt_normal ?_
            refine ac_ret ?_
            refine qt_ret ?_
            exact ⟨.inr rfl, AVle.of (by simp [same_self])⟩
          · skip
            exfalso; simp at h4
        · skip
          exfalso; simp [hf] at h3

/-- isobarlaw03.ChartReads -/
theorem f18_ok (hkn : KN GT) (s : List UInt8) (hl : s.length ≤ 400) {f : Fld} (hr : readP s = some f) (c59 : ACall Tryz.prog GT 59 [eS s] (.tup [.agg (eFld f), .v (.bool true)])) (hs : shapeB f = true) (hv : valsB f = true) : ACall Tryz.prog GT 18 [eS s] (.v (.bool true)) := by
  have hfl : f.vals.length ≤ 1000 := by have := read_len hr; omega
  have hf : fieldB f = true := fieldB_iff.2 ⟨hs, hv⟩
  have c56 := f56_ok f hfl hs hv
  rw [print_read hr hf] at c56
  refine acall_of Tryz.func18 rfl (by kernel_rfl) rfl ?_
  refine ac_seq ?_
  refine ac_region ?_
  refine al_y rfl rfl (y_assignV rfl rfl) ?_
  refine al_nil ?_
  refine qt_normal ?_
  refine ac_seq ?_
  refine ac_seq ?_
  refine ac_region ?_
  refine al_y rfl rfl (y_moveV rfl rfl) ?_
  refine al_y rfl rfl (y_len_SL rfl rfl Tryz.underlying9) ?_
  refine al_y rfl rfl (y_gtr rfl rfl rfl) ?_
  refine al_nil ?_
  refine qt_normal ?_
  refine ac_cond rfl (fun h0 => ?_) (fun h0 => ?_)
  · skip
    exfalso; simp at h0; omega
  · skip
    refine ac_skip ?_
    refine qt_normal ?_
    refine ac_seq ?_
    refine ac_region ?_
    refine al_y rfl rfl (y_moveV rfl rfl) ?_
    refine al_y rfl rfl (y_callF (av := [_]) rfl ⟨rfl, trivial⟩ (f57_ok s hl hr hs hv)) ?_
    refine al_y rfl rfl (y_moveP rfl rfl) ?_
    refine al_y rfl rfl (y_extract rfl rfl rfl) ?_
    refine al_y rfl rfl (y_extract rfl rfl rfl) ?_
    refine al_pair  rfl rfl rfl rfl rfl rfl rfl zv29 ty29 rfl (by rfl) (cE_agg rfl) rfl ?_
    refine al_y rfl rfl (y_assignV rfl rfl) ?_
    refine al_nil ?_
    refine qt_normal ?_
    refine ac_seq ?_
    refine ac_region ?_
    refine al_y rfl rfl (y_moveV rfl rfl) ?_
    refine al_y rfl rfl (y_callF (av := [_]) rfl ⟨rfl, trivial⟩ c59) ?_
    refine al_y rfl rfl (y_moveP rfl rfl) ?_
    refine al_y rfl rfl (y_extract rfl rfl rfl) ?_
    refine al_y rfl rfl (y_extract rfl rfl rfl) ?_
    refine al_pair  rfl rfl rfl rfl rfl rfl rfl zv29 ty29 rfl (by rfl) (cE_agg rfl) rfl ?_
    refine al_y rfl rfl (y_assignV rfl rfl) ?_
    refine al_nil ?_
    refine qt_normal ?_
    refine ac_seq ?_
    refine ac_region ?_
    refine al_y rfl rfl (y_assignV rfl rfl) ?_
    refine al_nil ?_
    refine qt_normal ?_
    refine ac_seq ?_
    refine ac_seq ?_
    refine ac_region ?_
    refine al_y rfl rfl (y_moveV rfl rfl) ?_
    refine al_y rfl rfl (y_len_SL rfl rfl Tryz.underlying9) ?_
    refine al_y rfl rfl (y_gtr rfl rfl rfl) ?_
    refine al_nil ?_
    refine qt_normal ?_
    refine ac_cond rfl (fun h1 => ?_) (fun h1 => ?_)
    · skip
      exfalso; simp at h1; omega
    · skip
      refine ac_seq ?_
      refine ac_region ?_
      refine al_y rfl rfl (y_moveV rfl rfl) ?_
      refine al_y rfl rfl (y_not rfl rfl) ?_
      refine al_nil ?_
      refine qt_normal ?_
      refine ac_cond rfl (fun h2 => ?_) (fun h2 => ?_)
      · skip
        exfalso; simp at h2
      · skip
        refine ac_seq ?_
        refine ac_region ?_
        refine al_y rfl rfl (y_loadN rfl rfl ty29 (by exact Nat.le_of_ble_eq_true rfl)) ?_
        refine al_y rfl rfl (y_callF (av := [_]) rfl ⟨rfl, trivial⟩ (f28 f hfl)) ?_
        refine al_y rfl rfl (y_not rfl rfl) ?_
        refine al_nil ?_
        refine qt_normal ?_
        refine ac_cond rfl (fun h3 => ?_) (fun h3 => ?_)
        · skip
          exfalso; simp [hf] at h3
        · skip
          refine ac_skip ?_
          refine qt_normal ?_
          refine ac_seq ?_
          refine ac_seq ?_
          refine ac_region ?_
          refine al_y rfl rfl (y_moveV rfl rfl) ?_
          refine al_y rfl rfl (y_neq rfl rfl rfl) ?_
          refine al_nil ?_
          refine qt_normal ?_
          refine ac_cond rfl (fun h4 => ?_) (fun h4 => ?_)
          · skip
            exfalso; simp at h4
          · skip
            refine ac_skip ?_
            refine qt_normal ?_
            refine ac_seq ?_
            refine ac_region ?_
            refine al_y rfl rfl (y_loadN rfl rfl ty29 (by exact Nat.le_of_ble_eq_true rfl)) ?_
            refine al_y rfl rfl (y_callF (av := [_]) rfl ⟨rfl, trivial⟩ c56) ?_
            refine al_y rfl rfl (y_moveP rfl rfl) ?_
            refine al_y rfl rfl (y_extract rfl rfl rfl) ?_
            refine al_y rfl rfl (y_extract rfl rfl rfl) ?_
            refine al_y rfl rfl (y_assignV rfl rfl) ?_
            refine al_y rfl rfl (y_assignV rfl rfl) ?_
            refine al_nil ?_
            refine qt_normal ?_
            refine ac_seq ?_
            refine ac_region ?_
            refine al_y rfl rfl (y_moveV rfl rfl) ?_
            refine al_y rfl rfl (y_eql rfl rfl rfl) ?_
            refine al_y rfl rfl (y_moveV rfl rfl) ?_
            refine al_maybe rfl rfl rfl (fun hg => y_loadN rfl rfl ty29 (by exact Nat.le_of_ble_eq_true rfl)) ?_
            refine al_maybe rfl rfl rfl (fun hg => y_loadN rfl rfl ty29 (by exact Nat.le_of_ble_eq_true rfl)) ?_
            refine al_maybe rfl rfl rfl (fun hg => y_callF (av := [_, _]) rfl ⟨(rfl), (rfl), trivial⟩ (f24 f f (by omega) (by omega))) ?_
            refine al_y rfl rfl (y_and rfl rfl rfl rfl) ?_
            refine al_y rfl rfl (y_moveV rfl rfl) ?_
            refine al_maybe rfl rfl rfl (fun hg => y_moveV rfl rfl) ?_
            refine al_maybe rfl rfl rfl (fun hg => y_eql rfl (if_pos hg) rfl) ?_
            refine al_y rfl rfl (y_and rfl rfl rfl rfl) ?_
            refine al_y rfl rfl (y_moveV rfl rfl) ?_
            refine al_maybe rfl rfl rfl (fun hg => y_moveV rfl rfl) ?_
            refine al_maybe rfl rfl rfl (fun hg => y_moveV rfl rfl) ?_
            refine al_maybe rfl rfl rfl (fun hg => y_eqlS rfl (if_pos hg) (if_pos hg)) ?_
            refine al_y rfl rfl (y_and rfl rfl rfl rfl) ?_
            refine al_y rfl rfl (y_moveV rfl rfl) ?_
            refine al_maybe rfl rfl rfl (fun hg => y_callF (av := []) rfl trivial hkn) ?_
            refine al_y rfl rfl (y_and rfl rfl rfl rfl) ?_
            refine al_y rfl rfl (y_assignV rfl rfl) ?_
            refine al_nil ?_
            refine qt_normal ?_
            refine ac_ret ?_
            exact ⟨.inr rfl, AVle.of (by simp [same_self])⟩

theorem f18 (hkn : KN GT) (s : List UInt8) : ACall Tryz.prog GT 18 [eS s] (.v (.bool true)) := by
  by_cases h5 : 500 < s.length
  · exact f18_triv hkn s h5
  · by_cases h4 : 400 < s.length
    · obtain ⟨b, c⟩ := f59_any (G := GT) s (by omega)
      exact f18_long hkn s h4 (by omega) c
    · rcases f59 (G := GT) s (by omega) with ⟨hr, c⟩ | ⟨f, hr, c⟩
      · exact f18_none hkn s (by omega) hr c
      · cases hs : shapeB f with
        | false => exact f18_shape hkn s (by omega) hr c hs
        | true =>
          cases hv : valsB f with
          | false => exact f18_vals hkn s (by omega) hr c hs hv
          | true => exact f18_ok hkn s (by omega) hr c hs hv
end Go.Av
end
