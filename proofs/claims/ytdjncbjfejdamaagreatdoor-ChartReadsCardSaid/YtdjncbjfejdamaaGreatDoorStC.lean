/- chart.Read. · The reference: Decimal, split. · The reference: words, number, numbers. -/
import Derived.Test.YtdjncbjfejdamaaGreatDoorStB
set_option linter.unusedVariables false
set_option linter.unusedSimpArgs false
section
namespace Go.Av
open Go.Proofs
set_option maxRecDepth 100000
set_option maxHeartbeats 1000000
set_option linter.unusedSimpArgs false
variable {G : Glob}

theorem decDigits_ne (u : Nat) : Lib.decDigits u ≠ [] := by
  rw [Lib.decDigits]
  split <;> simp
theorem itoa_ne (n : Int) : 1 ≤ (Lib.itoa n).length := by
  unfold Lib.itoa
  split
  · simp
  · have := decDigits_ne n.toNat
    exact List.length_pos_iff.2 this
theorem join_ge : ∀ (ws : List (List UInt8)), (∀ w ∈ ws, 1 ≤ w.length) → ws.length ≤ (Lib.join ws [32]).length
  | [], _ => by simp
  | w :: ws, h => by
    rw [Lib.join_cons]
    have h1 : ∀ (ws : List (List UInt8)), (∀ w ∈ ws, 1 ≤ w.length) → ws.length ≤ (Lib.joinTail [32] ws).length := by
      intro ws
      induction ws with
      | nil => intro _; simp
      | cons x xs ih =>
        intro hx
        have := ih fun w hw => hx w (List.mem_cons_of_mem _ hw)
        simp only [Lib.joinTail, List.map_cons, List.flatten_cons, List.length_append, List.length_cons, List.length_nil] at this ⊢
        omega
    have h2 := h1 ws fun w hw => h w (List.mem_cons_of_mem _ hw)
    have h3 := h w (List.mem_cons_self ..)
    simp only [List.length_append, List.length_cons]; omega
theorem rows_ge : ∀ (vs : List (List Int)), vs.flatten.length ≤ (rowsL vs).length
  | [] => by simp
  | l :: vs => by
    have h1 := rows_ge vs
    have h2 := join_ge (l.map Lib.itoa) (fun w hw => by obtain ⟨n, _, rfl⟩ := List.mem_map.1 hw; exact itoa_ne n)
    rw [List.length_map] at h2
    simp only [rowsL, List.map_cons, List.flatten_cons, List.length_append, rowL, lineL, List.length_cons, List.length_nil] at h1 ⊢
    omega
theorem read_ok {s : List UInt8} {f : Fld} (h : readP s = some f) : readOK s = true ∧ f = fldOfS s := by
  unfold readP at h
  split at h
  · rename_i hh; injection h with h; exact ⟨hh, h.symm⟩
  · cases h
theorem read_len {s : List UInt8} {f : Fld} (h : readP s = some f) : f.vals.length ≤ s.length := by
  obtain ⟨h1, rfl⟩ := read_ok h
  unfold readOK at h1
  simp only [Bool.and_eq_true, beq_iff_eq] at h1
  have h2 := congrArg List.length h1.2
  have h3 := rows_ge (valsOf s)
  unfold textL at h2
  simp only [List.length_append] at h2
  show (valsOf s).flatten.length ≤ s.length
  omega

/-- chart.Read$1 -/
theorem f107_none (mem : List PO) : DClo Tryz.prog G 107 [.pp 0 1 0 0, .pp 1 1 0 0] none mem mem := by
  refine dclo_of Tryz.func107 rfl (by kernel_rfl) rfl rfl rfl rfl rfl rfl (fun gh => ?_)
  refine ac_block ?_
  refine ac_seq ?_
  refine ac_region ?_
  refine al_y rfl rfl (y_nilI rfl rfl Tryz.underlying20) ?_
  refine al_nil ?_
  refine qt_normal ?_
  refine ac_cond rfl (fun h0 => ?_) (fun h0 => ?_)
  · skip
    refine ac_region ?_
    refine al_y rfl rfl (y_assignV rfl rfl) ?_
    refine al_nil ?_
    refine qb_normal ?_
    exact ⟨.inl rfl, rfl, rfl⟩
  · skip
    exfalso; simp at h0

/-- chart.Read$1 -/
theorem f107_some : DClo Tryz.prog G 107 [.pp 0 1 0 0, .pp 1 1 0 0] (some pvNone) [.row [[I 0, .pub (.v (.slice none 0 0))]], .row [[I 0]]] [.row [[I 0, .pub (.v (.slice none 0 0))]], .row [[I 4]]] := by
  refine dclo_of Tryz.func107 rfl (by kernel_rfl) rfl rfl rfl rfl rfl rfl (fun gh => ?_)
  refine ac_block ?_
  refine ac_seq ?_
  refine ac_region ?_
  refine al_y rfl rfl (y_nilN rfl rfl Tryz.underlying20) ?_
  refine al_nil ?_
  refine qt_normal ?_
  refine ac_cond rfl (fun h0 => ?_) (fun h0 => ?_)
  · skip
    exfalso; simp at h0
  · skip
    refine ac_seq ?_
    refine ac_region ?_
    refine al_y rfl rfl (y_assertT rfl rfl Tryz.underlying153 rfl) ?_
    refine al_y rfl rfl (y_extract rfl rfl rfl) ?_
    refine al_y rfl rfl (y_extract rfl rfl rfl) ?_
    refine al_nil ?_
    refine qt_normal ?_
    refine ac_cond rfl (fun h1 => ?_) (fun h1 => ?_)
    · skip
      refine ac_seq ?_
      refine ac_region ?_
      refine al_pair  rfl rfl rfl rfl rfl rfl rfl zv153 ty153 rfl (by rfl) (cE_agg rfl) rfl ?_
      refine al_nil ?_
      refine qt_normal ?_
      refine ac_region ?_
      refine al_y rfl rfl (y_build (cs := [_, _]) rfl st29 rfl rfl (by rfl) (by simp [ofV])) ?_
      refine al_m rfl (m_store rfl rfl rfl rfl rfl rfl (cE_agg rfl) ty29 (by rfl) (by exact Nat.le_of_ble_eq_true rfl)) ?_
      refine al_m rfl (m_store rfl rfl rfl rfl rfl rfl (cE_v rfl) ty30 (by rfl) (by exact Nat.le_of_ble_eq_true rfl)) ?_
      refine al_nil ?_
      refine qb_normal ?_
      exact ⟨.inl rfl, rfl, rfl⟩
    · skip
      exfalso; simp at h1

/-- chart.Read -/
theorem f57_long (s : List UInt8) (hl : 400 < s.length) : ACall Tryz.prog GT 57 [eS s] (.tup [.agg (eFld zFld), ei 3]) := by
  refine acall_def Tryz.func57 rfl (by kernel_rfl) rfl ?_
  refine ac_seq ?_
  refine ac_region ?_
  refine al_m rfl (m_alloc rfl rfl zv29 rfl rfl) ?_
  refine al_m rfl (m_alloc rfl rfl zv30 rfl rfl) ?_
  refine al_nil ?_
  refine qt_normal ?_
  refine ac_seq ?_
  refine ac_seq ?_
  refine ac_region ?_
  refine al_y rfl rfl (y_moveV rfl rfl) ?_
  refine al_y rfl rfl (y_len_SL rfl rfl Tryz.underlying9) ?_
  refine al_y rfl rfl (y_gtr rfl rfl rfl) ?_
  refine al_nil ?_
  refine qt_normal ?_
  refine ac_cond rfl (fun h0 => ?_) (fun h0 => ?_)
  · skip
    refine ac_seq ?_
    refine ac_region ?_
    refine al_y rfl rfl (y_build (cs := [_, _]) rfl st29 rfl rfl (by rfl) (by simp [ofV])) ?_
    refine al_m rfl (m_store rfl rfl rfl rfl rfl rfl (cE_agg rfl) ty29 (by rfl) (by exact Nat.le_of_ble_eq_true rfl)) ?_
    refine al_m rfl (m_store rfl rfl rfl rfl rfl rfl (cE_v rfl) ty30 (by rfl) (by exact Nat.le_of_ble_eq_true rfl)) ?_
    refine al_nil ?_
    refine qt_normal ?_
    refine ac_ret ?_
    refine qt_ret ?_
    exact .inl ⟨rfl, .inr rfl, ⟨_, rfl, ⟨_, _, rfl, (res_cell rfl rfl rfl rfl ty29 rfl (by exact ⟨_, _, rfl, (by exact AVle.refl _), ⟨_, _, rfl, (by exact AVle.nil), rfl⟩⟩)), ⟨_, _, rfl, (res_cell1 rfl rfl rfl rfl ty30 rfl (by exact AVle.refl _)), rfl⟩⟩⟩⟩
  · skip
    exfalso; simp at h0; omega

/-- chart.Read -/
theorem f57_none (s : List UInt8) (hl : s.length ≤ 400) (hr : readP s = none) : ACall Tryz.prog GT 57 [eS s] (.tup [.agg (eFld zFld), ei 4]) := by
  refine acall_def Tryz.func57 rfl (by kernel_rfl) rfl ?_
  refine ac_seq ?_
  refine ac_region ?_
  refine al_m rfl (m_alloc rfl rfl zv29 rfl rfl) ?_
  refine al_m rfl (m_alloc rfl rfl zv30 rfl rfl) ?_
  refine al_nil ?_
  refine qt_normal ?_
  refine ac_seq ?_
  refine ac_seq ?_
  refine ac_region ?_
  refine al_y rfl rfl (y_moveV rfl rfl) ?_
  refine al_y rfl rfl (y_len_SL rfl rfl Tryz.underlying9) ?_
  refine al_y rfl rfl (y_gtr rfl rfl rfl) ?_
  refine al_nil ?_
  refine qt_normal ?_
  refine ac_cond rfl (fun h0 => ?_) (fun h0 => ?_)
  · skip
    exfalso; simp at h0; omega
  · skip
    refine ac_skip ?_
    refine qt_normal ?_
    refine ac_seq ?_
    refine ac_region ?_
    refine al_y rfl rfl (y_makeFuncM rfl) ?_
    refine al_defer rfl rfl rfl rfl ?_
    refine al_nil ?_
    refine qt_normal ?_
    refine ac_seq ?_
    refine ac_region ?_
    refine al_y rfl rfl (y_moveV rfl rfl) ?_
    refine al_xo (av := [_]) rfl rfl rfl ⟨rfl, trivial⟩ (f108 s (by omega)) (fun hx0 u => ?_) (fun y0 hx0 => ?_)
    · skip
      refine qt_panic ?_
      exact .inr ⟨10, 107, _, _, _, rfl, rfl, ⟨_, rfl, ⟨_, _, rfl, (res_cell rfl rfl rfl rfl ty29 rfl (by exact ⟨_, _, rfl, (by exact AVle.refl _), ⟨_, _, rfl, (by exact AVle.nil), rfl⟩⟩)), ⟨_, _, rfl, (res_cell1 rfl rfl rfl rfl ty30 rfl (by exact AVle.refl _)), rfl⟩⟩⟩, .inr ⟨u, _, rfl, List.mem_cons_self .., f107_some⟩⟩
    exfalso; rw [hr] at hx0; cases hx0

/-- chart.Read -/
theorem f57_shape (s : List UInt8) (hl : s.length ≤ 400) {f : Fld} (hr : readP s = some f) (hs : shapeB f = false) : ACall Tryz.prog GT 57 [eS s] (.tup [.agg (eFld zFld), ei 2]) := by
  have hfl : f.vals.length ≤ 1000 := by have := read_len hr; omega
  refine acall_def Tryz.func57 rfl (by kernel_rfl) rfl ?_
  refine ac_seq ?_
  refine ac_region ?_
  refine al_m rfl (m_alloc rfl rfl zv29 rfl rfl) ?_
  refine al_m rfl (m_alloc rfl rfl zv30 rfl rfl) ?_
  refine al_nil ?_
  refine qt_normal ?_
  refine ac_seq ?_
  refine ac_seq ?_
  refine ac_region ?_
  refine al_y rfl rfl (y_moveV rfl rfl) ?_
  refine al_y rfl rfl (y_len_SL rfl rfl Tryz.underlying9) ?_
  refine al_y rfl rfl (y_gtr rfl rfl rfl) ?_
  refine al_nil ?_
  refine qt_normal ?_
  refine ac_cond rfl (fun h0 => ?_) (fun h0 => ?_)
  · skip
    exfalso; simp at h0; omega
  · skip
    refine ac_skip ?_
    refine qt_normal ?_
    refine ac_seq ?_
    refine ac_region ?_
    refine al_y rfl rfl (y_makeFuncM rfl) ?_
    refine al_defer rfl rfl rfl rfl ?_
    refine al_nil ?_
    refine qt_normal ?_
    refine ac_seq ?_
    refine ac_region ?_
    refine al_y rfl rfl (y_moveV rfl rfl) ?_
    refine al_xo (av := [_]) rfl rfl rfl ⟨rfl, trivial⟩ (f108 s (by omega)) (fun hx0 u => ?_) (fun y0 hx0 => ?_)
    · skip
      exfalso; rw [hr] at hx0; cases hx0
    refine al_m rfl (m_store rfl rfl rfl rfl rfl rfl (cE_agg rfl) ty29 (by rfl) (by exact Nat.le_of_ble_eq_true rfl)) ?_
    refine al_nil ?_
    refine qt_normal ?_
    refine ac_seq ?_
    refine ac_seq ?_
    have hye : y0 = f := by rw [hr] at hx0; injection hx0 with hx0; exact hx0.symm
    refine ac_region ?_
    refine al_y rfl rfl (y_load_ppA (cs := [_, _]) rfl rfl rfl rfl rfl (by exact Nat.le_of_ble_eq_true rfl) rfl ty29) ?_
    refine al_y rfl rfl (y_callF (av := [_]) rfl ⟨rfl, trivial⟩ (hye ▸ f67_bad f hfl hs)) ?_
    refine al_y rfl rfl (y_moveP rfl rfl) ?_
    refine al_y rfl rfl (y_extract rfl rfl rfl) ?_
    refine al_y rfl rfl (y_extract rfl rfl rfl) ?_
    refine al_y rfl rfl (y_assignV rfl rfl) ?_
    refine al_y rfl rfl (y_assignV rfl rfl) ?_
    refine al_nil ?_
    refine qt_normal ?_
    refine ac_seq ?_
    refine ac_region ?_
    refine al_y rfl rfl (y_moveV rfl rfl) ?_
    refine al_y rfl rfl (y_not rfl rfl) ?_
    refine al_nil ?_
    refine qt_normal ?_
    refine ac_cond rfl (fun h1 => ?_) (fun h1 => ?_)
    · skip
      refine ac_seq ?_
      refine ac_region ?_
      refine al_y rfl rfl (y_build (cs := [_, _]) rfl st29 rfl rfl (by rfl) (by simp [ofV])) ?_
      refine al_m rfl (m_store rfl rfl rfl rfl rfl rfl (cE_agg rfl) ty29 (by rfl) (by exact Nat.le_of_ble_eq_true rfl)) ?_
      refine al_m rfl (m_store rfl rfl rfl rfl rfl rfl (cE_v rfl) ty30 (by rfl) (by exact Nat.le_of_ble_eq_true rfl)) ?_
      refine al_nil ?_
      refine qt_normal ?_
      refine ac_ret ?_
      refine qt_ret ?_
      exact .inr ⟨10, 107, _, _, _, rfl, rfl, ⟨_, rfl, ⟨_, _, rfl, (res_cell rfl rfl rfl rfl ty29 rfl (by exact ⟨_, _, rfl, (by exact AVle.refl _), ⟨_, _, rfl, (by exact AVle.nil), rfl⟩⟩)), ⟨_, _, rfl, (res_cell1 rfl rfl rfl rfl ty30 rfl (by exact AVle.refl _)), rfl⟩⟩⟩, .inl ⟨.inr rfl, f107_none _⟩⟩
    · skip
      exfalso; simp at h1

/-- chart.Read -/
theorem f57_vals (s : List UInt8) (hl : s.length ≤ 400) {f : Fld} (hr : readP s = some f) (hs : shapeB f = true) (hv : valsB f = false) : ACall Tryz.prog GT 57 [eS s] (.tup [.agg (eFld zFld), ei 2]) := by
  have hfl : f.vals.length ≤ 1000 := by have := read_len hr; omega
  refine acall_def Tryz.func57 rfl (by kernel_rfl) rfl ?_
  refine ac_seq ?_
  refine ac_region ?_
  refine al_m rfl (m_alloc rfl rfl zv29 rfl rfl) ?_
  refine al_m rfl (m_alloc rfl rfl zv30 rfl rfl) ?_
  refine al_nil ?_
  refine qt_normal ?_
  refine ac_seq ?_
  refine ac_seq ?_
  refine ac_region ?_
  refine al_y rfl rfl (y_moveV rfl rfl) ?_
  refine al_y rfl rfl (y_len_SL rfl rfl Tryz.underlying9) ?_
  refine al_y rfl rfl (y_gtr rfl rfl rfl) ?_
  refine al_nil ?_
  refine qt_normal ?_
  refine ac_cond rfl (fun h0 => ?_) (fun h0 => ?_)
  · skip
    exfalso; simp at h0; omega
  · skip
    refine ac_skip ?_
    refine qt_normal ?_
    refine ac_seq ?_
    refine ac_region ?_
    refine al_y rfl rfl (y_makeFuncM rfl) ?_
    refine al_defer rfl rfl rfl rfl ?_
    refine al_nil ?_
    refine qt_normal ?_
    refine ac_seq ?_
    refine ac_region ?_
    refine al_y rfl rfl (y_moveV rfl rfl) ?_
    refine al_xo (av := [_]) rfl rfl rfl ⟨rfl, trivial⟩ (f108 s (by omega)) (fun hx0 u => ?_) (fun y0 hx0 => ?_)
    · skip
      exfalso; rw [hr] at hx0; cases hx0
    refine al_m rfl (m_store rfl rfl rfl rfl rfl rfl (cE_agg rfl) ty29 (by rfl) (by exact Nat.le_of_ble_eq_true rfl)) ?_
    refine al_nil ?_
    refine qt_normal ?_
    refine ac_seq ?_
    refine ac_seq ?_
    have hye : y0 = f := by rw [hr] at hx0; injection hx0 with hx0; exact hx0.symm
    refine ac_region ?_
    refine al_y rfl rfl (y_load_ppA (cs := [_, _]) rfl rfl rfl rfl rfl (by exact Nat.le_of_ble_eq_true rfl) rfl ty29) ?_
    refine al_y rfl rfl (y_callF (av := [_]) rfl ⟨rfl, trivial⟩ (hye ▸ f67_ok f hfl hs)) ?_
    refine al_y rfl rfl (y_moveP rfl rfl) ?_
    refine al_y rfl rfl (y_extract rfl rfl rfl) ?_
    refine al_y rfl rfl (y_extract rfl rfl rfl) ?_
    refine al_y rfl rfl (y_assignV rfl rfl) ?_
    refine al_y rfl rfl (y_assignV rfl rfl) ?_
    refine al_nil ?_
    refine qt_normal ?_
    refine ac_seq ?_
    refine ac_region ?_
    refine al_y rfl rfl (y_moveV rfl rfl) ?_
    refine al_y rfl rfl (y_not rfl rfl) ?_
    refine al_nil ?_
    refine qt_normal ?_
    refine ac_cond rfl (fun h1 => ?_) (fun h1 => ?_)
    · skip
      refine ac_seq ?_
      refine ac_region ?_
      refine al_y rfl rfl (y_build (cs := [_, _]) rfl st29 rfl rfl (by rfl) (by simp [ofV])) ?_
      refine al_m rfl (m_store rfl rfl rfl rfl rfl rfl (cE_agg rfl) ty29 (by rfl) (by exact Nat.le_of_ble_eq_true rfl)) ?_
      refine al_m rfl (m_store rfl rfl rfl rfl rfl rfl (cE_v rfl) ty30 (by rfl) (by exact Nat.le_of_ble_eq_true rfl)) ?_
      refine al_nil ?_
      refine qt_normal ?_
      refine ac_ret ?_
      refine qt_ret ?_
      exact .inr ⟨10, 107, _, _, _, rfl, rfl, ⟨_, rfl, ⟨_, _, rfl, (res_cell rfl rfl rfl rfl ty29 rfl (by exact ⟨_, _, rfl, (by exact AVle.refl _), ⟨_, _, rfl, (by exact AVle.nil), rfl⟩⟩)), ⟨_, _, rfl, (res_cell1 rfl rfl rfl rfl ty30 rfl (by exact AVle.refl _)), rfl⟩⟩⟩, .inl ⟨.inr rfl, f107_none _⟩⟩
    · skip
      exfalso; simp [hye, hv] at h1

/-- chart.Read -/
theorem f57_ok (s : List UInt8) (hl : s.length ≤ 400) {f : Fld} (hr : readP s = some f) (hs : shapeB f = true) (hv : valsB f = true) : ACall Tryz.prog GT 57 [eS s] (.tup [.agg (eFld f), ei 0]) := by
  have hfl : f.vals.length ≤ 1000 := by have := read_len hr; omega
  refine acall_def Tryz.func57 rfl (by kernel_rfl) rfl ?_
  refine ac_seq ?_
  refine ac_region ?_
  refine al_m rfl (m_alloc rfl rfl zv29 rfl rfl) ?_
  refine al_m rfl (m_alloc rfl rfl zv30 rfl rfl) ?_
  refine al_nil ?_
  refine qt_normal ?_
  refine ac_seq ?_
  refine ac_seq ?_
  refine ac_region ?_
  refine al_y rfl rfl (y_moveV rfl rfl) ?_
  refine al_y rfl rfl (y_len_SL rfl rfl Tryz.underlying9) ?_
  refine al_y rfl rfl (y_gtr rfl rfl rfl) ?_
  refine al_nil ?_
  refine qt_normal ?_
  refine ac_cond rfl (fun h0 => ?_) (fun h0 => ?_)
  · skip
    exfalso; simp at h0; omega
  · skip
    refine ac_skip ?_
    refine qt_normal ?_
    refine ac_seq ?_
    refine ac_region ?_
    refine al_y rfl rfl (y_makeFuncM rfl) ?_
    refine al_defer rfl rfl rfl rfl ?_
    refine al_nil ?_
    refine qt_normal ?_
    refine ac_seq ?_
    refine ac_region ?_
    refine al_y rfl rfl (y_moveV rfl rfl) ?_
    refine al_xo (av := [_]) rfl rfl rfl ⟨rfl, trivial⟩ (f108 s (by omega)) (fun hx0 u => ?_) (fun y0 hx0 => ?_)
    · skip
      exfalso; rw [hr] at hx0; cases hx0
    refine al_m rfl (m_store rfl rfl rfl rfl rfl rfl (cE_agg rfl) ty29 (by rfl) (by exact Nat.le_of_ble_eq_true rfl)) ?_
    refine al_nil ?_
    refine qt_normal ?_
    refine ac_seq ?_
    refine ac_seq ?_
    have hye : y0 = f := by rw [hr] at hx0; injection hx0 with hx0; exact hx0.symm
    refine ac_region ?_
    refine al_y rfl rfl (y_load_ppA (cs := [_, _]) rfl rfl rfl rfl rfl (by exact Nat.le_of_ble_eq_true rfl) rfl ty29) ?_
    refine al_y rfl rfl (y_callF (av := [_]) rfl ⟨rfl, trivial⟩ (hye ▸ f67_ok f hfl hs)) ?_
    refine al_y rfl rfl (y_moveP rfl rfl) ?_
    refine al_y rfl rfl (y_extract rfl rfl rfl) ?_
    refine al_y rfl rfl (y_extract rfl rfl rfl) ?_
    refine al_y rfl rfl (y_assignV rfl rfl) ?_
    refine al_y rfl rfl (y_assignV rfl rfl) ?_
    refine al_nil ?_
    refine qt_normal ?_
    refine ac_seq ?_
    refine ac_region ?_
    refine al_y rfl rfl (y_moveV rfl rfl) ?_
    refine al_y rfl rfl (y_not rfl rfl) ?_
    refine al_nil ?_
    refine qt_normal ?_
    refine ac_cond rfl (fun h1 => ?_) (fun h1 => ?_)
    · skip
      exfalso; simp [hye, hv] at h1
    · skip
      refine ac_skip ?_
      refine qt_normal ?_
      refine ac_seq ?_
      refine ac_region ?_
      refine al_y rfl rfl (y_load_ppA (cs := [_, _]) rfl rfl rfl rfl rfl (by exact Nat.le_of_ble_eq_true rfl) rfl ty29) ?_
      refine al_m rfl (m_store rfl rfl rfl rfl rfl rfl (cE_agg rfl) ty29 (by rfl) (by exact Nat.le_of_ble_eq_true rfl)) ?_
      refine al_m rfl (m_store rfl rfl rfl rfl rfl rfl (cE_v rfl) ty30 (by rfl) (by exact Nat.le_of_ble_eq_true rfl)) ?_
      refine al_nil ?_
      refine qt_normal ?_
      refine ac_ret ?_
      exact .inr ⟨10, 107, _, _, _, rfl, rfl, ⟨_, rfl, ⟨_, _, rfl, (res_cell rfl rfl rfl rfl ty29 rfl (by exact ⟨_, _, rfl, (by rw [hye]; exact AVle.refl _), ⟨_, _, rfl, (by rw [hye]; exact AVle.refl _), rfl⟩⟩)), ⟨_, _, rfl, (res_cell1 rfl rfl rfl rfl ty30 rfl (by exact AVle.refl _)), rfl⟩⟩⟩, .inl ⟨.inr rfl, f107_none _⟩⟩
end Go.Av
end

section
namespace Go.Av
open Go.Proofs
set_option maxRecDepth 100000
set_option maxHeartbeats 1000000
set_option linter.unusedSimpArgs false
variable {G : Glob}

theorem splitL_none {c : UInt8} : ∀ {l : List UInt8}, (∀ x ∈ l, x ≠ c) → splitL c l = [l]
  | [], _ => rfl
  | x :: xs, h => by
    simp only [splitL, if_neg (h x (List.mem_cons_self ..)), splitL_none fun y hy => h y (List.mem_cons_of_mem _ hy)]
theorem splitL_hit {c : UInt8} {b : List UInt8} : ∀ {a : List UInt8}, (∀ x ∈ a, x ≠ c) → splitL c (a ++ c :: b) = a :: splitL c b
  | [], _ => by simp [splitL]
  | x :: xs, h => by
    simp only [List.cons_append, splitL, if_neg (h x (List.mem_cons_self ..)), splitL_hit fun y hy => h y (List.mem_cons_of_mem _ hy)]
theorem part_no {s : List UInt8} {c : UInt8} {a k : Nat} (hk : k ≤ s.length) (h : ∀ i (hi : i < s.length), a ≤ i → i < k → s[i] ≠ c) : ∀ x ∈ (s.take k).drop a, x ≠ c := fun x hx => by
  obtain ⟨i, hi, rfl⟩ := List.getElem_of_mem hx
  simp only [List.length_drop, List.length_take] at hi
  rw [List.getElem_drop, List.getElem_take]
  exact h (a + i) (by omega) (by omega) (by omega)
theorem split_step {s : List UInt8} {c : UInt8} {a k : Nat} {P : List (List UInt8)} (hk : k < s.length) (ha : a ≤ k) (hs : splitL c s = P ++ splitL c (s.drop a)) (h : ∀ i (hi : i < s.length), a ≤ i → i < k → s[i] ≠ c) (hc : s[k] = c) :
    splitL c s = (P ++ [(s.take k).drop a]) ++ splitL c (s.drop (k + 1)) := by
  have e : s.drop a = (s.take k).drop a ++ c :: s.drop (k + 1) := by
    rw [← hc, List.getElem_cons_drop hk]
    have := List.take_append_drop k s
    conv => lhs; rw [← this]
    rw [List.drop_append_of_le_length (by simp only [List.length_take]; omega)]
  rw [hs, e, splitL_hit (part_no (by omega) h)]
  simp
theorem split_end {s : List UInt8} {c : UInt8} {a : Nat} {P : List (List UInt8)} (hs : splitL c s = P ++ splitL c (s.drop a)) (h : ∀ i (hi : i < s.length), a ≤ i → i < s.length → s[i] ≠ c) : splitL c s = P ++ [s.drop a] := by
  have := part_no (k := s.length) (Nat.le_refl _) h
  rw [List.take_length] at this
  rw [hs, splitL_none this]
theorem dig_i (m : Nat) : UInt8.ofNat ((48 : Int) + (m : Int) % 10).toNat = UInt8.ofNat (48 + m % 10) := by
  have : ((48 : Int) + (m : Int) % 10).toNat = 48 + m % 10 := by omega
  rw [this]
theorem dig_q (m : Nat) : UInt8.ofNat ((48 : Int) + (m : Int) / 10 % 10).toNat = UInt8.ofNat (48 + m / 10 % 10) := by
  have : ((48 : Int) + (m : Int) / 10 % 10).toNat = 48 + m / 10 % 10 := by omega
  rw [this]
theorem itoa_nat (n : Nat) : Lib.itoa (n : Int) = Lib.decDigits n := by unfold Lib.itoa; rw [if_neg (by omega)]; simp
def DI (N : Nat) (p : Nat × List UInt8) : Prop := p.1 ≤ N ∧ p.2.length ≤ 21 ∧ (if p.1 < 10 then p.2 else Lib.decDigits (p.1 / 10) ++ p.2) = Lib.decDigits N
theorem di_start {N : Nat} : DI N (N, [UInt8.ofNat (48 + N % 10)]) := by
  refine ⟨Nat.le_refl _, by simp, ?_⟩
  conv => rhs; rw [Lib.decDigits]
  simp only
  split
  · rename_i h; rw [Nat.mod_eq_of_lt h]
  · rfl
theorem di_step {N : Nat} {p : Nat × List UInt8} (hN : N ≤ 1000000000000000000) (h : DI N p) (hp : 10 ≤ p.1) : DI N (p.1 / 10, [UInt8.ofNat (48 + p.1 / 10 % 10)] ++ p.2) := by
  obtain ⟨h1, h2, h3⟩ := h
  rw [if_neg (by omega)] at h3
  have hl := congrArg List.length h3
  have h21 := Lib.itoa_length_le (N : Int) (by omega) (by omega)
  rw [itoa_nat] at h21
  have hne := List.length_pos_iff.2 (decDigits_ne (p.1 / 10))
  simp only [List.length_append] at hl
  refine ⟨by simp only; omega, by simp only [List.length_append, List.length_cons, List.length_nil]; omega, ?_⟩
  simp only
  rw [← h3]
  conv => rhs; rw [Lib.decDigits]
  split
  · rename_i h; rw [Nat.mod_eq_of_lt h]
  · simp
theorem di_end {N : Nat} {p : Nat × List UInt8} (h : DI N p) (hp : p.1 < 10) : p.2 = Lib.decDigits N := by
  have := h.2.2
  rwa [if_pos hp] at this
def wordsL (l : List UInt8) : List (List UInt8) := if l = [] then [] else splitL 32 l

/-- isobarref03.Decimal -/
theorem f109_nat (N : Nat) (hN : N ≤ 1000000000000000000) : ACall Tryz.prog G 109 [.v (.int .i64 (N : Int))] (eS (Lib.itoa (N : Int))) := by
  refine acall_of Tryz.func109 rfl (by kernel_rfl) rfl ?_
  refine ac_seq ?_
  refine ac_region ?_
  refine al_y rfl rfl (y_assignV rfl rfl) ?_
  refine al_nil ?_
  refine qt_normal ?_
  refine ac_seq ?_
  refine ac_region ?_
  refine al_y rfl rfl (y_moveV rfl rfl) ?_
  refine al_y rfl rfl (y_rem rfl rfl rfl ⟨(by omega), (by omega)⟩) ?_
  refine al_y rfl rfl (y_add rfl rfl rfl ⟨(by omega), (by omega)⟩) ?_
  refine al_y rfl rfl (y_convI rfl rfl Tryz.underlying3 Tryz.underlying5 (wrap_u8 (by omega))) ?_
  refine al_y rfl rfl (y_buildSlice (size := 1) (rows := [[_]]) rfl Tryz.underlying96 ti5 rfl (by decide) rfl (by decide) ⟨_, _, rfl, (cE_v rfl), rfl⟩ (by rfl) (by simp [ofV]) rfl (by simp)) ?_
  refine al_y rfl rfl (y_convBS (ns := [_]) rfl rfl Tryz.underlying96 Tryz.underlying5 Tryz.underlying9) ?_
  refine al_y rfl rfl (y_assignV rfl rfl) ?_
  refine al_nil ?_
  refine qt_normal ?_
  refine ac_seq ?_
  refine ac_block ?_
  refine ac_loop (ι := { p : Nat × List UInt8 // DI N p }) (fun p => ⟨Tryz.f109.ntmps, frL [(0, I (p.1.1 : Int)), (3, SL p.1.2)], []⟩) (fun p => p.1.1) (⟨(N, [UInt8.ofNat (48 + N % 10)]), di_start⟩) ?_ ?_
  · exact weak_frM _ ⟨rfl, (congrArg (fun x => SL [x]) (dig_i N)), trivial⟩ rfl
  · rintro ⟨p, hp⟩
    dsimp only
    refine ac_seq ?_
    refine ac_seq ?_
    refine ac_region ?_
    refine al_y rfl rfl (y_moveV rfl rfl) ?_
    refine al_y rfl rfl (y_geq rfl rfl rfl) ?_
    refine al_nil ?_
    refine qt_normal ?_
    refine ac_cond rfl (fun h0 => ?_) (fun h0 => ?_)
    · skip
      have hge : 10 ≤ p.1 := by simp at h0; omega
      have hpN := hp.1
      refine ac_skip ?_
      refine qt_normal ?_
      refine ac_block ?_
      refine ac_seq ?_
      refine ac_region ?_
      refine al_y rfl rfl (y_moveV rfl rfl) ?_
      refine al_y rfl rfl (y_quo rfl rfl rfl ⟨(by omega), (by omega), (by omega)⟩) ?_
      refine al_y rfl rfl (y_assignV rfl rfl) ?_
      refine al_nil ?_
      refine qt_normal ?_
      refine ac_region ?_
      refine al_y rfl rfl (y_moveV rfl rfl) ?_
      refine al_y rfl rfl (y_rem rfl rfl rfl ⟨(by omega), (by omega)⟩) ?_
      refine al_y rfl rfl (y_add rfl rfl rfl ⟨(by omega), (by omega)⟩) ?_
      refine al_y rfl rfl (y_convI rfl rfl Tryz.underlying3 Tryz.underlying5 (wrap_u8 (by omega))) ?_
      refine al_y rfl rfl (y_buildSlice (size := 1) (rows := [[_]]) rfl Tryz.underlying96 ti5 rfl (by decide) rfl (by decide) ⟨_, _, rfl, (cE_v rfl), rfl⟩ (by rfl) (by simp [ofV]) rfl (by simp)) ?_
      refine al_y rfl rfl (y_convBS (ns := [_]) rfl rfl Tryz.underlying96 Tryz.underlying5 Tryz.underlying9) ?_
      refine al_y rfl rfl (y_moveV rfl rfl) ?_
      refine al_y rfl rfl (y_addS rfl rfl rfl (by have := hp.2.1; simp; omega)) ?_
      refine al_y rfl rfl (y_assignV rfl rfl) ?_
      refine al_nil ?_
      refine qb_normal ?_
      exact ⟨⟨(p.1 / 10, [UInt8.ofNat (48 + p.1 / 10 % 10)] ++ p.2), di_step hN hp hge⟩, by dsimp only; omega, weak_frM _ ⟨(by show I _ = I _; simp), (congrArg (fun x => SL ([x] ++ p.2)) (dig_q p.1)), trivial⟩ rfl⟩
    · skip
      have hlt : p.1 < 10 := by simp at h0; omega
      have hend := di_end hp hlt
      refine ac_exit ?_
      refine qt_exit ?_
      refine qt_exit ?_
      refine qb_exit ?_
      refine qt_normal ?_
      refine ac_seq ?_
      refine ac_region ?_
      refine al_y rfl rfl (y_moveV rfl rfl) ?_
      refine al_y rfl rfl (y_assignV rfl rfl) ?_
      refine al_nil ?_
      refine qt_normal ?_
      refine ac_ret ?_
      exact ⟨.inr rfl, AVle.of (by rw [itoa_nat, hend])⟩

theorem f109 (n : Int) (h : 0 ≤ n ∧ n ≤ 1000000000000000000) : ACall Tryz.prog G 109 [.v (.int .i64 n)] (eS (Lib.itoa n)) := by
  obtain ⟨N, rfl⟩ : ∃ N : Nat, n = N := ⟨n.toNat, by omega⟩
  exact f109_nat N (by omega)

/-- isobarref03.split -/
theorem f110 (s : List UInt8) (c : UInt8) (hl : s.length ≤ 1000000) : ACall Tryz.prog G 110 [eS s, .v (.int .u8 (c.toNat : Int))] (eStrs (splitL c s)) := by
  refine acall_of Tryz.func110 rfl (by kernel_rfl) rfl ?_
  refine ac_seq ?_
  refine ac_region ?_
  refine al_y rfl rfl (y_assignV rfl rfl) ?_
  refine al_nil ?_
  refine qt_normal ?_
  refine ac_seq ?_
  refine ac_region ?_
  refine al_y rfl rfl (y_assignV rfl rfl) ?_
  refine al_nil ?_
  refine qt_normal ?_
  refine ac_seq ?_
  refine ac_region ?_
  refine al_y rfl rfl (y_assignV rfl rfl) ?_
  refine al_nil ?_
  refine qt_normal ?_
  refine ac_seq ?_
  refine ac_seq ?_
  refine ac_region ?_
  refine al_y rfl rfl (y_assignV rfl rfl) ?_
  refine al_nil ?_
  refine qt_normal ?_
  refine ac_block ?_
  refine ac_weak (weak_nil 5 rfl) ?_
  refine ac_loop (ι := { p : Nat × Nat × List (List UInt8) // p.1 ≤ s.length ∧ p.2.1 ≤ p.1 ∧ p.2.2.length ≤ p.1 ∧ splitL c s = p.2.2 ++ splitL c (s.drop p.2.1) ∧ ∀ i (hi : i < s.length), p.2.1 ≤ i → i < p.1 → s[i] ≠ c }) (fun p => ⟨Tryz.f110.ntmps, frL [(0, SL s), (1, .pub (.v (.int .u8 (c.toNat : Int)))), (5, .psl 0 p.1.2.2.length), (6, I (p.1.2.1 : Int)), (7, I (p.1.1 : Int))], [.row (p.1.2.2.map fun s => [SL s])]⟩) (fun p => s.length - p.1.1) (⟨(0, 0, []), Nat.zero_le _, Nat.le_refl _, Nat.le_refl _, rfl, fun i _ _ h => absurd h (by simp)⟩) ?_ ?_
  · exact weak_frM _ ⟨rfl, rfl, rfl, rfl, rfl, trivial⟩ rfl
  · rintro ⟨⟨k, a, P⟩, hp⟩
    dsimp only
    obtain ⟨h1k, h2, h3, h4, h5⟩ := hp
    dsimp only at h1k h2 h3 h4 h5
    refine ac_seq ?_
    refine ac_seq ?_
    refine ac_region ?_
    refine al_y rfl rfl (y_moveV rfl rfl) ?_
    refine al_y rfl rfl (y_moveV rfl rfl) ?_
    refine al_y rfl rfl (y_len_SL rfl rfl Tryz.underlying9) ?_
    refine al_y rfl rfl (y_lss rfl rfl rfl) ?_
    refine al_nil ?_
    refine qt_normal ?_
    refine ac_cond rfl (fun h0 => ?_) (fun h0 => ?_)
    · skip
      have hlt : k < s.length := by simpa using h0
      refine ac_skip ?_
      refine qt_normal ?_
      refine ac_seq ?_
      refine ac_block ?_
      refine ac_seq ?_
      refine ac_region ?_
      refine al_y rfl rfl (y_moveV rfl rfl) ?_
      refine al_y rfl rfl (y_moveV rfl rfl) ?_
      refine al_y rfl rfl (y_index_SL rfl rfl rfl Tryz.underlying9 (by omega) (show s[(k : Int).toNat]? = some s[k] by simp [hlt])) ?_
      refine al_y rfl rfl (y_moveV rfl rfl) ?_
      refine al_y rfl rfl (y_eql rfl rfl rfl) ?_
      refine al_nil ?_
      refine qt_normal ?_
      refine ac_cond rfl (fun h1 => ?_) (fun h1 => ?_)
      · skip
        have hcc : s[k] = c := by have := h1; simp at this; exact UInt8.toNat_inj.1 (by omega)
        have hstp := split_step hlt h2 h4 h5 hcc
        refine ac_seq ?_
        refine ac_region ?_
        refine al_y rfl rfl (y_moveS rfl rfl) ?_
        refine al_y rfl rfl (y_moveV rfl rfl) ?_
        refine al_y rfl rfl (y_moveV rfl rfl) ?_
        refine al_y rfl rfl (y_moveV rfl rfl) ?_
        refine al_y rfl rfl (y_slice_SL rfl rfl rfl rfl Tryz.underlying9 (by omega) (by omega) (by omega)) ?_
        refine al_y rfl rfl (y_buildSlice (size := 1) (rows := [[_]]) rfl Tryz.underlying156 ti9 rfl (by decide) rfl (by decide) ⟨_, _, rfl, (cE_v rfl), rfl⟩ (by rfl) (by simp [ofV]) rfl (by simp)) ?_
        refine al_m rfl (m_append rfl rfl rfl rfl (by simp) rfl el156 (by intro r hr; obtain ⟨n, _, rfl⟩ := List.mem_map.1 hr; rfl) (by simp) (by simp; omega) (by unfold maxLen; simp; omega)) ?_
        refine al_y rfl rfl (y_assignS rfl rfl) ?_
        refine al_nil ?_
        refine qt_normal ?_
        refine ac_region ?_
        refine al_y rfl rfl (y_moveV rfl rfl) ?_
        refine al_y rfl rfl (y_add rfl rfl rfl ⟨(by omega), (by omega)⟩) ?_
        refine al_y rfl rfl (y_assignV rfl rfl) ?_
        refine al_nil ?_
        refine qb_normal ?_
        refine qt_normal ?_
        refine ac_region ?_
        refine al_y rfl rfl (y_moveV rfl rfl) ?_
        refine al_y rfl rfl (y_add rfl rfl rfl ⟨(by omega), (by omega)⟩) ?_
        refine al_y rfl rfl (y_assignV rfl rfl) ?_
        refine al_nil ?_
        first | exact ⟨⟨(k + 1, k + 1, P ++ [(s.take k).drop a]), by dsimp only; omega, by dsimp only; omega, by simp; omega, hstp, fun i _ h h' => absurd h' (by dsimp only at h ⊢; omega)⟩, by dsimp only; omega, weak_frM _ ⟨rfl, rfl, (by simp [allSlots]; rfl), rfl, rfl, trivial⟩ (by simp)⟩ | exact ⟨⟨(k + 1, a, P), by dsimp only; omega, by dsimp only; omega, by dsimp only; omega, h4, fun i hi h h' => (if e : i = k then by subst e; exact hcc else h5 i hi h (by dsimp only at h'; omega))⟩, by dsimp only; omega, weak_frM _ ⟨rfl, rfl, rfl, rfl, rfl, trivial⟩ rfl⟩
      · skip
        have hcc : s[k] ≠ c := by intro e; simp [e] at h1
        refine ac_skip ?_
        refine qb_normal ?_
        refine qt_normal ?_
        refine ac_region ?_
        refine al_y rfl rfl (y_moveV rfl rfl) ?_
        refine al_y rfl rfl (y_add rfl rfl rfl ⟨(by omega), (by omega)⟩) ?_
        refine al_y rfl rfl (y_assignV rfl rfl) ?_
        refine al_nil ?_
        first | exact ⟨⟨(k + 1, k + 1, P ++ [(s.take k).drop a]), by dsimp only; omega, by dsimp only; omega, by simp; omega, hstp, fun i _ h h' => absurd h' (by dsimp only at h ⊢; omega)⟩, by dsimp only; omega, weak_frM _ ⟨rfl, rfl, (by simp [allSlots]; rfl), rfl, rfl, trivial⟩ (by simp)⟩ | exact ⟨⟨(k + 1, a, P), by dsimp only; omega, by dsimp only; omega, by dsimp only; omega, h4, fun i hi h h' => (if e : i = k then by subst e; exact hcc else h5 i hi h (by dsimp only at h'; omega))⟩, by dsimp only; omega, weak_frM _ ⟨rfl, rfl, rfl, rfl, rfl, trivial⟩ rfl⟩
    · skip
      have hge : s.length ≤ k := by simpa using h0
      have hk2 : k = s.length := by omega
      subst hk2
      have hend := split_end h4 h5
      refine ac_exit ?_
      refine qt_exit ?_
      refine qt_exit ?_
      refine qb_exit ?_
      refine qt_normal ?_
      refine ac_seq ?_
      refine ac_region ?_
      refine al_y rfl rfl (y_moveS rfl rfl) ?_
      refine al_y rfl rfl (y_moveV rfl rfl) ?_
      refine al_y rfl rfl (y_moveV rfl rfl) ?_
      refine al_y rfl rfl (y_slice_SL rfl rfl rfl rfl Tryz.underlying9 (by omega) (by omega) (by omega)) ?_
      refine al_y rfl rfl (y_buildSlice (size := 1) (rows := [[_]]) rfl Tryz.underlying156 ti9 rfl (by decide) rfl (by decide) ⟨_, _, rfl, (cE_v rfl), rfl⟩ (by rfl) (by simp [ofV]) rfl (by simp)) ?_
      refine al_m rfl (m_append rfl rfl rfl rfl (by simp) rfl el156 (by intro r hr; obtain ⟨n, _, rfl⟩ := List.mem_map.1 hr; rfl) (by simp) (by simp; omega) (by unfold maxLen; simp; omega)) ?_
      refine al_y rfl rfl (y_assignS rfl rfl) ?_
      refine al_nil ?_
      refine qt_normal ?_
      refine ac_ret ?_
      exact ⟨.inr rfl, ⟨(splitL c s).map fun s => [eS s], by show some (PO.row _) = some (PO.row _); rw [hend]; simp [Function.comp_def], by rw [hend]; simp, rfl⟩⟩
end Go.Av
end

section
namespace Go.Av
open Go.Proofs
set_option maxRecDepth 100000
set_option maxHeartbeats 1000000
set_option linter.unusedSimpArgs false
variable {G : Glob}

def formB (w : List UInt8) : Bool := w != [] && decide (w.length ≤ 5) && w.all isDig
def numN (w : List UInt8) : Int := if formB w then numV w else 0
theorem numOK_form (w : List UInt8) : numOK w = (formB w && (Lib.itoa (numV w) == w)) := rfl
theorem form_no {w : List UInt8} {k : Nat} (h : k < w.length) (hd : isDig w[k] = false) : formB w = false := by
  unfold formB
  cases hb : (w != [] && decide (w.length ≤ 5)) with
  | false => rfl
  | true => rw [Bool.true_and, List.all_eq_false]; exact ⟨_, List.getElem_mem h, by rw [hd]; decide⟩
theorem nd_iff {c : UInt8} : (decide ((c.toNat : Int) < 48) || decide ((57 : Int) < (c.toNat : Int))) = !isDig c := by
  unfold isDig
  by_cases h1 : c.toNat < 48
  · rw [show decide ((c.toNat : Int) < 48) = true from by simp; omega, show decide (48 ≤ c.toNat) = false from by simp; omega]; rfl
  · rw [show decide ((c.toNat : Int) < 48) = false from by simp; omega, show decide (48 ≤ c.toNat) = true from by simp; omega]
    by_cases h2 : c.toNat ≤ 57
    · rw [show decide ((57 : Int) < (c.toNat : Int)) = false from by simp; omega, show decide (c.toNat ≤ 57) = true from by simp; omega]; rfl
    · rw [show decide ((57 : Int) < (c.toNat : Int)) = true from by simp; omega, show decide (c.toNat ≤ 57) = false from by simp; omega]; rfl
theorem nil_of {y : AV} (h : y = .sl []) : AVle (.v (.slice none 0 0)) y := h ▸ AVle.nil
def numsOK (ws : List (List UInt8)) : Bool := ws.all numOK
theorem nums_no {ws : List (List UInt8)} {k : Nat} (h : k < ws.length) (hn : numOK ws[k] = false) : numsOK ws = false := by
  unfold numsOK; rw [List.all_eq_false]; exact ⟨_, List.getElem_mem h, by rw [hn]; decide⟩
theorem nums_yes {ws : List (List UInt8)} (h : ∀ i (hi : i < ws.length), i < ws.length → numOK ws[i] = true) : numsOK ws = true := by
  unfold numsOK; rw [List.all_eq_true]; intro w hw; obtain ⟨i, hi, rfl⟩ := List.getElem_of_mem hw; exact h i hi hi
theorem numN_ok {w : List UInt8} (h : numOK w = true) : numN w = numV w := by
  rw [numOK_form] at h; simp only [Bool.and_eq_true] at h
  unfold numN; rw [h.1]; rfl

/-- isobarref03.words -/
theorem f112 (l : List UInt8) (hl : l.length ≤ 1000000) : ACall Tryz.prog G 112 [eS l] (eStrs (wordsL l)) := by
  refine acall_of Tryz.func112 rfl (by kernel_rfl) rfl ?_
  refine ac_seq ?_
  refine ac_region ?_
  refine al_y rfl rfl (y_assignV rfl rfl) ?_
  refine al_nil ?_
  refine qt_normal ?_
  refine ac_seq ?_
  refine ac_seq ?_
  refine ac_region ?_
  refine al_y rfl rfl (y_moveV rfl rfl) ?_
  refine al_y rfl rfl (y_eqlS rfl rfl rfl) ?_
  refine al_nil ?_
  refine qt_normal ?_
  refine ac_cond rfl (fun h0 => ?_) (fun h0 => ?_)
  · skip
    have he : l = [] := by simpa using h0
    have hw : wordsL l = [] := by unfold wordsL; rw [if_pos he]
    refine ac_seq ?_
    refine ac_region ?_
    refine al_y rfl rfl (y_assignV rfl rfl) ?_
    refine al_nil ?_
    refine qt_normal ?_
    refine ac_ret ?_
    refine qt_ret ?_
    exact ⟨.inr rfl, nil_of (by rw [hw]; rfl)⟩
  · skip
    have he : l ≠ [] := by simpa using h0
    have hw : wordsL l = splitL 32 l := by unfold wordsL; rw [if_neg he]
    refine ac_skip ?_
    refine qt_normal ?_
    refine ac_seq ?_
    refine ac_region ?_
    refine al_y rfl rfl (y_moveV rfl rfl) ?_
    refine al_y rfl rfl (y_callF (av := [_, _]) rfl ⟨rfl, rfl, trivial⟩ (f110 l 32 hl)) ?_
    refine al_y rfl rfl (y_assignP rfl rfl) ?_
    refine al_nil ?_
    refine qt_normal ?_
    refine ac_ret ?_
    exact ⟨.inr rfl, AVle.of (by rw [hw])⟩

/-- isobarref03.number -/
theorem f145 (w : List UInt8) (hl : w.length ≤ 1000000) : ACall Tryz.prog G 145 [eS w] (.tup [ei (numN w), .v (.bool (numOK w))]) := by
  refine acall_of Tryz.func145 rfl (by kernel_rfl) rfl ?_
  refine ac_seq ?_
  refine ac_region ?_
  refine al_y rfl rfl (y_assignV rfl rfl) ?_
  refine al_y rfl rfl (y_assignV rfl rfl) ?_
  refine al_nil ?_
  refine qt_normal ?_
  refine ac_seq ?_
  refine ac_seq ?_
  refine ac_region ?_
  refine al_y rfl rfl (y_moveV rfl rfl) ?_
  refine al_y rfl rfl (y_len_SL rfl rfl Tryz.underlying9) ?_
  refine al_y rfl rfl (y_eql rfl rfl rfl) ?_
  refine al_y rfl rfl (y_moveV rfl rfl) ?_
  refine al_maybe rfl rfl rfl (fun hg => y_moveV rfl rfl) ?_
  refine al_maybe rfl rfl rfl (fun hg => y_len_SL rfl (if_pos hg) Tryz.underlying9) ?_
  refine al_maybe rfl rfl rfl (fun hg => y_gtr rfl (if_pos hg) rfl) ?_
  refine al_y rfl rfl (y_or rfl rfl rfl rfl) ?_
  refine al_nil ?_
  refine qt_normal ?_
  refine ac_cond rfl (fun h0 => ?_) (fun h0 => ?_)
  · skip
    have hf : formB w = false := by unfold formB; revert h0; cases w with
      | nil => intro _; rfl
      | cons a b => intro h0; rw [show decide ((a :: b).length ≤ 5) = false from by simp at h0 ⊢; omega]; simp
    refine ac_seq ?_
    refine ac_region ?_
    refine al_y rfl rfl (y_assignV rfl rfl) ?_
    refine al_y rfl rfl (y_assignV rfl rfl) ?_
    refine al_nil ?_
    refine qt_normal ?_
    refine ac_ret ?_
    refine qt_ret ?_
    exact ⟨.inr rfl, ⟨_, rfl, ⟨_, _, rfl, AVle.of (by unfold numN; rw [hf]; rfl), ⟨_, _, rfl, AVle.of (by rw [numOK_form, hf]; rfl), rfl⟩⟩⟩⟩
  · skip
    have h5 : w ≠ [] ∧ w.length ≤ 5 := by
      cases w with
      | nil => simp at h0
      | cons a b => exact ⟨by simp, by simp at h0 ⊢; omega⟩
    refine ac_skip ?_
    refine qt_normal ?_
    refine ac_seq ?_
    refine ac_region ?_
    refine al_y rfl rfl (y_assignV rfl rfl) ?_
    refine al_nil ?_
    refine qt_normal ?_
    refine ac_seq ?_
    refine ac_seq ?_
    refine ac_region ?_
    refine al_y rfl rfl (y_assignV rfl rfl) ?_
    refine al_nil ?_
    refine qt_normal ?_
    refine ac_block ?_
    refine ac_loop (ι := { k : Nat // k ≤ w.length ∧ ∀ i (hi : i < w.length), i < k → isDig w[i] = true }) (fun k => ⟨Tryz.f145.ntmps, frL [(0, SL w), (4, I (numV (w.take k.1))), (5, I (k.1 : Int))], []⟩) (fun k => w.length - k.1) (⟨0, by omega, fun i _ h => absurd h (by omega)⟩) ?_ ?_
    · exact weak_frM _ ⟨rfl, rfl, rfl, trivial⟩ (rfl)
    · rintro ⟨k, hk⟩
      dsimp only
      refine ac_seq ?_
      refine ac_seq ?_
      refine ac_region ?_
      refine al_y rfl rfl (y_moveV rfl rfl) ?_
      refine al_y rfl rfl (y_moveV rfl rfl) ?_
      refine al_y rfl rfl (y_len_SL rfl rfl Tryz.underlying9) ?_
      refine al_y rfl rfl (y_lss rfl rfl rfl) ?_
      refine al_nil ?_
      refine qt_normal ?_
      refine ac_cond rfl (fun h1 => ?_) (fun h1 => ?_)
      · skip
        have hlt : k < w.length := by simpa using h1
        refine ac_skip ?_
        refine qt_normal ?_
        refine ac_seq ?_
        refine ac_block ?_
        refine ac_seq ?_
        refine ac_seq ?_
        refine ac_region ?_
        refine al_y rfl rfl (y_moveV rfl rfl) ?_
        refine al_y rfl rfl (y_moveV rfl rfl) ?_
        refine al_y rfl rfl (y_index_SL rfl rfl rfl Tryz.underlying9 (by omega) (show w[(k : Int).toNat]? = some w[k] by simp [hlt])) ?_
        refine al_y rfl rfl (y_lss rfl rfl rfl) ?_
        refine al_y rfl rfl (y_moveV rfl rfl) ?_
        refine al_maybe rfl rfl rfl (fun hg => y_moveV rfl rfl) ?_
        refine al_maybe rfl rfl rfl (fun hg => y_moveV rfl rfl) ?_
        refine al_maybe rfl rfl rfl (fun hg => y_index_SL rfl (if_pos hg) (if_pos hg) Tryz.underlying9 (by omega) (show w[(k : Int).toNat]? = some w[k] by simp [hlt])) ?_
        refine al_maybe rfl rfl rfl (fun hg => y_gtr rfl (if_pos hg) rfl) ?_
        refine al_y rfl rfl (y_or rfl rfl rfl rfl) ?_
        refine al_nil ?_
        refine qt_normal ?_
        refine ac_cond rfl (fun h2 => ?_) (fun h2 => ?_)
        · skip
          have hf : formB w = false := form_no hlt (by rw [nd_iff] at h2; simpa using h2)
          refine ac_seq ?_
          refine ac_region ?_
          refine al_y rfl rfl (y_assignV rfl rfl) ?_
          refine al_y rfl rfl (y_assignV rfl rfl) ?_
          refine al_nil ?_
          refine qt_normal ?_
          refine ac_ret ?_
          refine qt_ret ?_
          refine qb_ret ?_
          refine qt_ret ?_
          refine qt_ret ?_
          refine qb_ret ?_
          refine qt_ret ?_
          exact ⟨.inr rfl, ⟨_, rfl, ⟨_, _, rfl, AVle.of (by unfold numN; rw [hf]; rfl), ⟨_, _, rfl, AVle.of (by rw [numOK_form, hf]; rfl), rfl⟩⟩⟩⟩
        · skip
          have hd : isDig w[k] = true := by rw [nd_iff] at h2; simpa using h2
          have hdd := hd
          simp only [isDig, Bool.and_eq_true, decide_eq_true_eq] at hdd
          have hnt := numV_small (w := w.take k) (by simp; omega) (take_dig hk.2)
          refine ac_skip ?_
          refine qt_normal ?_
          refine ac_region ?_
          refine al_y rfl rfl (y_moveV rfl rfl) ?_
          refine al_y rfl rfl (y_mul rfl rfl rfl ⟨(by omega), (by omega)⟩) ?_
          refine al_y rfl rfl (y_moveV rfl rfl) ?_
          refine al_y rfl rfl (y_moveV rfl rfl) ?_
          refine al_y rfl rfl (y_index_SL rfl rfl rfl Tryz.underlying9 (by omega) (show w[(k : Int).toNat]? = some w[k] by simp [hlt])) ?_
          refine al_y rfl rfl (y_subK rfl rfl rfl (wrap_u8 (by omega))) ?_
          refine al_y rfl rfl (y_convI rfl rfl Tryz.underlying5 Tryz.underlying3 (wrap_64 (by omega))) ?_
          refine al_y rfl rfl (y_add rfl rfl rfl ⟨(by omega), (by omega)⟩) ?_
          refine al_y rfl rfl (y_assignV rfl rfl) ?_
          refine al_nil ?_
          refine qb_normal ?_
          refine qt_normal ?_
          refine ac_region ?_
          refine al_y rfl rfl (y_moveV rfl rfl) ?_
          refine al_y rfl rfl (y_add rfl rfl rfl ⟨(by omega), (by omega)⟩) ?_
          refine al_y rfl rfl (y_assignV rfl rfl) ?_
          refine al_nil ?_
          exact ⟨⟨k + 1, by omega, fun i hi h => (if e : i = k then by subst e; exact hd else hk.2 i hi (by omega))⟩, by dsimp only; omega, weak_frM _ ⟨rfl, (by show I _ = I _; rw [numV_take hlt]), rfl, trivial⟩ (rfl)⟩
      · skip
        have hge : w.length ≤ k := by simpa using h1
        have hk2 : k = w.length := by omega
        subst hk2
        have hall := take_dig hk.2
        have hsm := numV_small h5.2 (by rw [List.take_length] at hall; exact hall)
        rw [List.take_length] at *
        have hf : formB w = true := by unfold formB; rw [decide_eq_true h5.2, show w.all isDig = true from by rw [List.all_eq_true]; exact hall]; simpa using h5.1
        refine ac_exit ?_
        refine qt_exit ?_
        refine qt_exit ?_
        refine qb_exit ?_
        refine qt_normal ?_
        refine ac_seq ?_
        refine ac_region ?_
        refine al_y rfl rfl (y_moveV rfl rfl) ?_
        refine al_y rfl rfl (y_moveV rfl rfl) ?_
        refine al_y rfl rfl (y_callF (av := [_]) rfl ⟨rfl, trivial⟩ (f109 _ (by omega))) ?_
        refine al_y rfl rfl (y_moveV rfl rfl) ?_
        refine al_y rfl rfl (y_eqlS rfl rfl rfl) ?_
        refine al_y rfl rfl (y_assignV rfl rfl) ?_
        refine al_y rfl rfl (y_assignV rfl rfl) ?_
        refine al_nil ?_
        refine qt_normal ?_
        refine ac_ret ?_
        exact ⟨.inr rfl, ⟨_, rfl, ⟨_, _, rfl, AVle.of (by unfold numN; rw [hf]; rfl), ⟨_, _, rfl, AVle.of (by rw [numOK_form, hf]; rfl), rfl⟩⟩⟩⟩

/-- isobarref03.numbers -/
theorem f111 (ws : List (List UInt8)) (hn : ws.length ≤ 1000000) (hl : ∀ w ∈ ws, w.length ≤ 1000000) : ACall Tryz.prog G 111 [eStrs ws] (.tup [eInts (if numsOK ws then ws.map numV else []), .v (.bool (numsOK ws))]) := by
  refine acall_of Tryz.func111 rfl (by kernel_rfl) rfl ?_
  refine ac_seq ?_
  refine ac_region ?_
  refine al_y rfl rfl (y_assignV rfl rfl) ?_
  refine al_y rfl rfl (y_assignV rfl rfl) ?_
  refine al_nil ?_
  refine qt_normal ?_
  refine ac_seq ?_
  refine ac_region ?_
  refine al_y rfl rfl (y_assignV rfl rfl) ?_
  refine al_nil ?_
  refine qt_normal ?_
  refine ac_seq ?_
  refine ac_seq ?_
  refine ac_region ?_
  refine al_y rfl rfl (y_assignV rfl rfl) ?_
  refine al_nil ?_
  refine qt_normal ?_
  refine ac_block ?_
  refine ac_weak (weak_nil 4 rfl) ?_
  refine ac_loop (ι := { k : Nat // k ≤ ws.length ∧ ∀ i (hi : i < ws.length), i < k → numOK ws[i] = true }) (fun k => ⟨Tryz.f111.ntmps, frL [(0, .pub (eStrs ws)), (4, .psl 0 k.1), (5, I (k.1 : Int))], [.row ((ws.take k.1).map fun w => iE (numV w))]⟩) (fun k => ws.length - k.1) (⟨0, by omega, fun i _ h => absurd h (by omega)⟩) ?_ ?_
  · exact weak_frM _ ⟨rfl, rfl, rfl, trivial⟩ (rfl)
  · rintro ⟨k, hk⟩
    dsimp only
    refine ac_seq ?_
    refine ac_seq ?_
    refine ac_region ?_
    refine al_y rfl rfl (y_moveV rfl rfl) ?_
    refine al_y rfl rfl (y_moveP rfl rfl) ?_
    refine al_y rfl rfl (y_len_map rfl rfl Tryz.underlying156) ?_
    refine al_y rfl rfl (y_lss rfl rfl rfl) ?_
    refine al_nil ?_
    refine qt_normal ?_
    refine ac_cond rfl (fun h0 => ?_) (fun h0 => ?_)
    · skip
      have hlt : k < ws.length := by simpa using h0
      refine ac_skip ?_
      refine qt_normal ?_
      refine ac_seq ?_
      refine ac_block ?_
      refine ac_seq ?_
      refine ac_region ?_
      refine al_y rfl rfl (y_moveP rfl rfl) ?_
      refine al_y rfl rfl (y_moveV rfl rfl) ?_
      refine al_y rfl rfl (y_indexAddr rfl rfl rfl slc156 (by omega) (str_at hlt) str_len) ?_
      refine al_y rfl rfl (y_load1 rfl rfl rfl ty9) ?_
      refine al_y rfl rfl (y_callF (av := [_]) rfl ⟨rfl, trivial⟩ (f145 ws[k] (hl _ (List.getElem_mem hlt)))) ?_
      refine al_y rfl rfl (y_moveP rfl rfl) ?_
      refine al_y rfl rfl (y_extract rfl rfl rfl) ?_
      refine al_y rfl rfl (y_extract rfl rfl rfl) ?_
      refine al_y rfl rfl (y_assignV rfl rfl) ?_
      refine al_y rfl rfl (y_assignV rfl rfl) ?_
      refine al_nil ?_
      refine qt_normal ?_
      refine ac_seq ?_
      refine ac_seq ?_
      refine ac_region ?_
      refine al_y rfl rfl (y_moveV rfl rfl) ?_
      refine al_y rfl rfl (y_not rfl rfl) ?_
      refine al_nil ?_
      refine qt_normal ?_
      refine ac_cond rfl (fun h1 => ?_) (fun h1 => ?_)
      · skip
        have hno := nums_no hlt (by simpa using h1)
        refine ac_seq ?_
        refine ac_region ?_
        refine al_y rfl rfl (y_assignV rfl rfl) ?_
        refine al_y rfl rfl (y_assignV rfl rfl) ?_
        refine al_nil ?_
        refine qt_normal ?_
        refine ac_ret ?_
        refine qt_ret ?_
        refine qb_ret ?_
        refine qt_ret ?_
        refine qt_ret ?_
        refine qb_ret ?_
        refine qt_ret ?_
        exact ⟨.inr rfl, ⟨_, rfl, ⟨_, _, rfl, nil_of (by rw [hno]; rfl), ⟨_, _, rfl, AVle.of (by rw [hno]), rfl⟩⟩⟩⟩
      · skip
        have hyk : numOK ws[k] = true := by simpa using h1
        have hnv := numN_ok hyk
        refine ac_skip ?_
        refine qt_normal ?_
        refine ac_region ?_
        refine al_y rfl rfl (y_moveS rfl rfl) ?_
        refine al_y rfl rfl (y_moveV rfl rfl) ?_
        refine al_y rfl rfl (y_buildSlice (size := 1) (rows := [[_]]) rfl Tryz.underlying27 ti3 rfl (by decide) rfl (by decide) ⟨_, _, rfl, (cE_v rfl), rfl⟩ (by rfl) (by simp [ofV]) rfl (by simp)) ?_
        refine al_m rfl (m_append rfl rfl rfl rfl (by simp; omega) rfl el27 (by intro r hr; obtain ⟨n, _, rfl⟩ := List.mem_map.1 hr; rfl) (by simp) (by simp; omega) (by unfold maxLen; simp; omega)) ?_
        refine al_y rfl rfl (y_assignS rfl rfl) ?_
        refine al_nil ?_
        refine qb_normal ?_
        refine qt_normal ?_
        refine ac_region ?_
        refine al_y rfl rfl (y_moveV rfl rfl) ?_
        refine al_y rfl rfl (y_add rfl rfl rfl ⟨(by omega), (by omega)⟩) ?_
        refine al_y rfl rfl (y_assignV rfl rfl) ?_
        refine al_nil ?_
        exact ⟨⟨k + 1, by omega, fun i hi h => (if e : i = k then by subst e; exact hyk else hk.2 i hi (by omega))⟩, by dsimp only; omega, weak_frM _ ⟨rfl, rfl, rfl, trivial⟩ (congrArg (fun z => [PO.row z]) (by rw [List.take_add_one, List.getElem?_eq_getElem hlt, Option.toList_some, List.map_append, hnv]; rfl))⟩
    · skip
      have hge : ws.length ≤ k := by simpa using h0
      have hk2 : k = ws.length := by omega
      subst hk2
      have hy := nums_yes hk.2
      rw [List.take_length] at *
      refine ac_exit ?_
      refine qt_exit ?_
      refine qt_exit ?_
      refine qb_exit ?_
      refine qt_normal ?_
      refine ac_seq ?_
      refine ac_region ?_
      refine al_y rfl rfl (y_moveS rfl rfl) ?_
      refine al_y rfl rfl (y_assignS rfl rfl) ?_
      refine al_y rfl rfl (y_assignV rfl rfl) ?_
      refine al_nil ?_
      refine qt_normal ?_
      refine ac_ret ?_
      exact ⟨.inr rfl, ⟨_, rfl, ⟨_, _, rfl, ⟨(ws.map numV).map fun n => [AV.v (.int .i64 n)], by show some (PO.row _) = some (PO.row _); simp [iE, Function.comp_def], by simp, by rw [hy]; rfl⟩, ⟨_, _, rfl, AVle.of (by rw [hy]), rfl⟩⟩⟩⟩
end Go.Av
end
