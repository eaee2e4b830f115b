/- chart.Fits: the test of a station. · The neighbours of a point. · chart.Fits. · ChartFits. -/
import Derived.Test.YtdjncbjfejdamaaGreatDoorChM
set_option linter.unusedVariables false
set_option linter.unusedSimpArgs false
section
namespace Go.Av
open Go.Proofs
set_option maxRecDepth 100000
set_option maxHeartbeats 1000000
set_option linter.unusedSimpArgs false
variable {G : Glob}

def offB (f : Fld) (s : Stn) : Bool := !inB (f.vals.getD s.pt.toNat 0) s.lo s.hi

/-- chart.Fits$1 -/
theorem f104 (f : Fld) (s : Stn) (hp : 0 ≤ s.pt) (hpt : s.pt.toNat < f.vals.length) : ACall Tryz.prog G 104 [.agg (eStn s), .ptr (eFld f)] (.v (.bool (offB f s))) := by
  refine acall_of Tryz.func104 rfl (by kernel_rfl) rfl ?_
  refine ac_seq ?_
  refine ac_region ?_
  refine al_y rfl rfl (y_box rfl (cE_agg rfl)) ?_
  refine al_y rfl rfl (y_assignV rfl rfl) ?_
  refine al_nil ?_
  refine qt_normal ?_
  refine ac_seq ?_
  refine ac_draw mixed (by kernel_rfl) rfl ?_
  refine aq_y rfl (y_fieldAddr rfl rfl fld29_1) ?_
  refine aq_y rfl (y_load1 rfl rfl rfl ty27) ?_
  refine aq_y rfl (y_fieldAddr rfl rfl fld78_0) ?_
  refine aq_y rfl (y_load1 rfl rfl rfl ty3) ?_
  refine aq_y rfl (y_indexAddr rfl rfl rfl slc27 (by omega) (by simp [hpt]; rfl) int_len) ?_
  refine aq_y rfl (y_load1 rfl rfl rfl ty3) ?_
  refine aq_y rfl (y_fieldAddr rfl rfl fld78_1) ?_
  refine aq_y rfl (y_fieldAddr rfl rfl fld76_0) ?_
  refine aq_y rfl (y_load1 rfl rfl rfl ty3) ?_
  refine aq_y rfl (y_fieldAddr rfl rfl fld78_1) ?_
  refine aq_y rfl (y_fieldAddr rfl rfl fld76_1) ?_
  refine aq_y rfl (y_load1 rfl rfl rfl ty3) ?_
  refine aq_y rfl (y_callF (av := [_, _, _]) rfl ⟨rfl, rfl, rfl, trivial⟩ (f68 _ _ _)) ?_
  refine aq_y rfl (y_not rfl rfl) ?_
  refine aq_y rfl (y_assignV rfl rfl) ?_
  refine aq_nil ?_
  refine qt_normal ?_
  refine ac_ret ?_
  exact ⟨.inr rfl, AVle.of (by unfold offB; rw [getD_at hpt])⟩
end Go.Av
end

section
namespace Go.Av
open Go.Proofs
set_option maxRecDepth 100000
set_option maxHeartbeats 1000000
set_option linter.unusedSimpArgs false
variable {G : Glob}

/-- The neighbours of a point (with corners, also those in one cell with it), in order. -/
def besB (w p : Int) (c : Bool) (q : Nat) : Bool := (dist w p (q : Int) == 1) || (((c && (dist w p (q : Int) == 2)) && (p / w != (q : Int) / w)) && (p % w != (q : Int) % w))
def nbs (w r p : Int) (c : Bool) : List Nat := (List.range (w * r).toNat).filter (besB w p c)
def nbQ (w r p : Int) (c : Bool) : List (List AV) := (nbs w r p c).map fun (q : Nat) => [ei (q : Int)]
def cntB (f : Nat → Bool) (k : Nat) : Nat := ((List.range k).filter f).length
theorem cntB_succ (f : Nat → Bool) (k : Nat) : cntB f (k + 1) = if f k then cntB f k + 1 else cntB f k := by
  unfold cntB
  rw [List.range_succ, List.filter_append]
  cases h : f k <;> simp [h]
theorem filter_at {f : Nat → Bool} : ∀ {n k : Nat}, k < n → f k = true → ((List.range n).filter f)[cntB f k]? = some k := by
  intro n
  induction n with
  | zero => intro k h; omega
  | succ n ih =>
    intro k hk hf
    rw [List.range_succ, List.filter_append]
    by_cases h : k < n
    · rw [List.getElem?_append_left]
      · exact ih h hf
      · have := ih h hf
        exact (List.getElem?_eq_some_iff.1 this).1
    · have : k = n := by omega
      subst this
      rw [List.getElem?_append_right (by unfold cntB; omega)]
      simp [cntB, hf]
theorem nbQ_at {w r p : Int} {c : Bool} {k : Nat} (hk : k < (w * r).toNat) (hb : besB w p c k = true) : (nbQ w r p c)[cntB (besB w p c) k]? = some [ei (k : Int)] := by
  unfold nbQ nbs
  rw [List.getElem?_map, filter_at hk hb]
  rfl
theorem nbQ_len {w r p : Int} {c : Bool} : (nbQ w r p c).length = cntB (besB w p c) (w * r).toNat := by simp [nbQ, nbs, cntB]
theorem nbs_mem {w r p : Int} {c : Bool} {q : Nat} : q ∈ nbs w r p c ↔ q < (w * r).toNat ∧ besB w p c q = true := by simp [nbs]
theorem ic_weak {P : Program} {C : Cx P G} {ph : Ph} {st st' : ASt} {Q : Exit → Ph → ASt → Prop} (hw : Weak st st') {c : Code} (h : ACodeI C c ph st' Q) : ACodeI C c ph st Q := fun w0 ok0 a w hc hs => h w0 ok0 a w hc (hw w0 ok0 a w hs)

/-- chart.grid.around$1 -/
theorem it118 (w r p : Int) (c : Bool) (hw : 1 ≤ w ∧ w ≤ 6) (hr : 1 ≤ r ∧ r ≤ 5) (hp : 0 ≤ p ∧ p ≤ 30) : IterC Tryz.prog G 118 [] [.ptr (eGrid w r), .ptr [ei p], .ptr [.v (.bool c)]] (nbQ w r p c) := by
  have har := area hw.1 hw.2 hr.1 hr.2
  have hN : ((w * r).toNat : Int) = w * r := by omega
  obtain ⟨N, hNe⟩ : ∃ N, N = (w * r).toNat := ⟨_, rfl⟩
  rw [← hNe] at hN
  refine iter_of (qs := (nbQ w r p c)) Tryz.func118 rfl (by kernel_rfl) rfl rfl (fun C hC => ?_)
  refine ic_seq ?_
  refine ic_of ?_
  refine ac_region ?_
  refine al_y rfl rfl (y_fieldAddr rfl rfl fld99_0) ?_
  refine al_y rfl rfl (y_load1 rfl rfl rfl ty3) ?_
  refine al_y rfl rfl (y_fieldAddr rfl rfl fld99_1) ?_
  refine al_y rfl rfl (y_load1 rfl rfl rfl ty3) ?_
  refine al_y rfl rfl (y_mul rfl rfl rfl ⟨(by omega), (by omega)⟩) ?_
  refine al_y rfl rfl (y_moveV rfl rfl) ?_
  refine al_nil ?_
  refine it_normal ?_
  refine ic_block ?_
  refine ic_loop (ι := { k : Nat // k ≤ N }) (fun k => ⟨Tryz.f118.ntmps, frL [(0, .pub (.v (.func (.yield C.l) #[] #[]))), (1, .pub (.ptr (eGrid w r))), (2, .pub (.ptr [ei p])), (3, .pub (.ptr [.v (.bool c)])), (12, I (w * r)), (13, I (k.1 : Int))], []⟩) (fun k => .on (cntB (besB w p c) k.1)) (fun k => N - k.1) (⟨0, by omega⟩) rfl ?_ ?_
  · exact weak_frM _ ⟨rfl, rfl, rfl, rfl, rfl, rfl, trivial⟩ (rfl)
  · rintro ⟨k, hk⟩
    dsimp only
    refine ic_seq ?_
    refine ic_of ?_
    refine ac_region ?_
    refine al_y rfl rfl (y_lss rfl rfl rfl) ?_
    refine al_nil ?_
    refine it_normal ?_
    refine ic_seq ?_
    refine ic_cond rfl (fun h0 => ?_) (fun h0 => ?_)
    · skip
      have hlt : k < N := by simp at h0; omega
      refine ic_skip ?_
      refine it_normal ?_
      refine ic_seq ?_
      refine ic_block ?_
      refine ic_seq ?_
      refine ic_of ?_
      refine ac_region ?_
      refine al_y rfl rfl (y_moveV rfl rfl) ?_
      refine al_y rfl rfl (y_assignV rfl rfl) ?_
      refine al_nil ?_
      refine it_normal ?_
      refine ic_seq ?_
      refine ic_of ?_
      refine ac_region ?_
      refine al_y rfl rfl (y_loadN rfl rfl ty99 (by exact Nat.le_of_ble_eq_true rfl)) ?_
      refine al_y rfl rfl (y_load1 rfl rfl rfl ty3) ?_
      refine al_y rfl rfl (y_moveV rfl rfl) ?_
      refine al_y rfl rfl (y_callF (av := [_, _, _]) rfl ⟨rfl, rfl, rfl, trivial⟩ (f119 w r p (k : Int) (by omega) (by omega) (by omega))) ?_
      refine al_y rfl rfl (y_assignV rfl rfl) ?_
      refine al_nil ?_
      refine it_normal ?_
      refine ic_seq ?_
      refine ic_of ?_
      refine ac_draw mixed (by kernel_rfl) rfl ?_
      refine aq_y rfl (y_moveV rfl rfl) ?_
      refine aq_y rfl (y_eql rfl rfl rfl) ?_
      refine aq_y rfl (y_moveV rfl rfl) ?_
      refine aq_maybe rfl (fun hg => y_load1 rfl rfl rfl ty4) ?_
      refine aq_maybe rfl (fun hg => y_moveV rfl (if_pos hg)) ?_
      refine aq_maybe (wanted_ite rfl rfl rfl) (fun hg => y_moveV rfl rfl) ?_
      refine aq_maybe (wanted_ite rfl rfl rfl) (fun hg => y_eql rfl (if_pos hg) rfl) ?_
      refine aq_maybe rfl (fun hg => y_and rfl (if_pos hg) (ite_and hg) rfl) ?_
      refine aq_maybe rfl (fun hg => y_moveV rfl (if_pos hg)) ?_
      refine aq_maybe (wanted_ite rfl rfl rfl) (fun hg => y_loadN rfl rfl ty99 (by exact Nat.le_of_ble_eq_true rfl)) ?_
      refine aq_maybe (wanted_ite rfl rfl rfl) (fun hg => y_load1 rfl rfl rfl ty3) ?_
      refine aq_maybe (wanted_ite rfl rfl rfl) (fun hg => y_callF (av := [_, _]) rfl ⟨((if_pos hg)), ((if_pos hg)), trivial⟩ (f120 w r p (by omega) (by omega))) ?_
      refine aq_maybe (wanted_ite rfl rfl rfl) (fun hg => y_loadN rfl rfl ty99 (by exact Nat.le_of_ble_eq_true rfl)) ?_
      refine aq_maybe (wanted_ite rfl rfl rfl) (fun hg => y_moveV rfl rfl) ?_
      refine aq_maybe (wanted_ite rfl rfl rfl) (fun hg => y_callF (av := [_, _]) rfl ⟨((if_pos hg)), ((if_pos hg)), trivial⟩ (f120 w r (k : Int) (by omega) (by omega))) ?_
      refine aq_maybe (wanted_ite rfl rfl rfl) (fun hg => y_neq rfl (if_pos hg) (if_pos hg)) ?_
      refine aq_maybe rfl (fun hg => y_and rfl (if_pos hg) (ite_and hg) rfl) ?_
      refine aq_maybe rfl (fun hg => y_moveV rfl (if_pos hg)) ?_
      refine aq_maybe (wanted_ite rfl rfl rfl) (fun hg => y_loadN rfl rfl ty99 (by exact Nat.le_of_ble_eq_true rfl)) ?_
      refine aq_maybe (wanted_ite rfl rfl rfl) (fun hg => y_load1 rfl rfl rfl ty3) ?_
      refine aq_maybe (wanted_ite rfl rfl rfl) (fun hg => y_callF (av := [_, _]) rfl ⟨((if_pos hg)), ((if_pos hg)), trivial⟩ (f121 w r p (by omega) (by omega))) ?_
      refine aq_maybe (wanted_ite rfl rfl rfl) (fun hg => y_loadN rfl rfl ty99 (by exact Nat.le_of_ble_eq_true rfl)) ?_
      refine aq_maybe (wanted_ite rfl rfl rfl) (fun hg => y_moveV rfl rfl) ?_
      refine aq_maybe (wanted_ite rfl rfl rfl) (fun hg => y_callF (av := [_, _]) rfl ⟨((if_pos hg)), ((if_pos hg)), trivial⟩ (f121 w r (k : Int) (by omega) (by omega))) ?_
      refine aq_maybe (wanted_ite rfl rfl rfl) (fun hg => y_neq rfl (if_pos hg) (if_pos hg)) ?_
      refine aq_maybe rfl (fun hg => y_and rfl (if_pos hg) (ite_and hg) rfl) ?_
      refine aq_y rfl (y_or rfl rfl rfl rfl) ?_
      refine aq_y rfl (y_assignV rfl rfl) ?_
      refine aq_nil ?_
      refine it_normal ?_
      refine ic_seq ?_
      cases hb : besB w p c k with
      | false =>
        refine ic_weak (weak_frM (mem' := []) [(0, .pub (.v (.func (.yield C.l) #[] #[]))), (1, .pub (.ptr (eGrid w r))), (2, .pub (.ptr [ei p])), (3, .pub (.ptr [.v (.bool c)])), (12, I (w * r)), (5, I (k : Int)), (7, B false), (13, I (k : Int))] ⟨rfl, rfl, rfl, rfl, rfl, rfl, congrArg B hb, rfl, trivial⟩ rfl) ?_
        refine ic_region ?_
        refine il_y rfl rfl (y_moveV rfl rfl) ?_
        refine il_y rfl rfl (y_moveV rfl rfl) ?_
        refine il_maybe (x := .pub .top) rfl rfl rfl (fun h => absurd h (by decide)) ?_
        refine il_maybe (x := .pub .top) rfl rfl rfl (fun h => absurd h (by decide)) ?_
        refine il_yield (q := []) (c := false) rfl rfl rfl rfl (fun h => absurd h (by decide)) (fun h => absurd h (by decide)) (fun h => absurd h (by decide)) rfl rfl rfl rfl rfl (fun _ => ?_) (fun h => absurd h (by decide)) (fun h => absurd h (by decide))
        refine il_maybe (x := .pub .top) rfl rfl rfl (fun h => absurd h (by decide)) ?_
        refine il_y rfl rfl (y_pick rfl rfl (fun h => absurd h (by decide)) (fun _ => rfl)) ?_
        refine il_nil ?_
        refine it_normal ?_
        refine ic_cond (b := false) rfl (fun h => absurd h (by decide)) (fun _ => ?_)
        refine ic_skip ?_
        refine ib_normal ?_
        refine it_normal ?_
        refine ic_of ?_
        refine ac_region ?_
        refine al_y rfl rfl (y_add rfl rfl rfl ⟨(by omega), (by omega)⟩) ?_
        refine al_y rfl rfl (y_moveV rfl rfl) ?_
        refine al_nil ?_
        exact ⟨⟨k + 1, by omega⟩, by dsimp only; omega, by simp only [cntB_succ, hb]; rfl, weak_frM _ ⟨rfl, rfl, rfl, rfl, rfl, rfl, trivial⟩ rfl⟩
      | true =>
        refine ic_weak (weak_frM (mem' := []) [(0, .pub (.v (.func (.yield C.l) #[] #[]))), (1, .pub (.ptr (eGrid w r))), (2, .pub (.ptr [ei p])), (3, .pub (.ptr [.v (.bool c)])), (12, I (w * r)), (5, I (k : Int)), (7, B true), (13, I (k : Int))] ⟨rfl, rfl, rfl, rfl, rfl, rfl, congrArg B hb, rfl, trivial⟩ rfl) ?_
        refine ic_region ?_
        refine il_y rfl rfl (y_moveV rfl rfl) ?_
        refine il_y rfl rfl (y_moveV rfl rfl) ?_
        refine il_maybe rfl rfl rfl (fun _ => y_moveV rfl rfl) ?_
        refine il_maybe rfl rfl rfl (fun _ => y_moveV rfl rfl) ?_
        refine il_yield (q := [ei (k : Int)]) (c := true) rfl rfl rfl rfl (fun _ => rfl) (fun _ => rfl) (fun _ => by rw [hC]; exact nbQ_at (by omega) hb) rfl rfl rfl rfl rfl (fun h => absurd h (by decide)) (fun _ => ?_) (fun _ => ?_)
        · refine il_maybe rfl rfl rfl (fun _ => y_not rfl rfl) ?_
          refine il_y rfl rfl (y_pick rfl rfl (fun _ => rfl) (fun h => absurd h (by decide))) ?_
          refine il_nil ?_
          refine it_normal ?_
          refine ic_cond (b := false) rfl (fun h => absurd h (by decide)) (fun _ => ?_)
          refine ic_skip ?_
          refine ib_normal ?_
          refine it_normal ?_
          refine ic_of ?_
          refine ac_region ?_
          refine al_y rfl rfl (y_add rfl rfl rfl ⟨(by omega), (by omega)⟩) ?_
          refine al_y rfl rfl (y_moveV rfl rfl) ?_
          refine al_nil ?_
          exact ⟨⟨k + 1, by omega⟩, by dsimp only; omega, by simp only [cntB_succ, hb]; rfl, weak_frM _ ⟨rfl, rfl, rfl, rfl, rfl, rfl, trivial⟩ rfl⟩
        · refine il_maybe rfl rfl rfl (fun _ => y_not rfl rfl) ?_
          refine il_y rfl rfl (y_pick rfl rfl (fun _ => rfl) (fun h => absurd h (by decide))) ?_
          refine il_nil ?_
          refine it_normal ?_
          refine ic_cond (b := true) rfl (fun _ => ?_) (fun h => absurd h (by decide))
          refine ic_ret ?_
          refine ib_ret ?_
          refine it_ret ?_
          refine it_ret ?_
          refine ib_ret ?_
          exact ⟨.inr rfl, rfl, .inr ⟨_, rfl⟩⟩
    · skip
      have hge : N ≤ k := by simp at h0; omega
      refine ic_exit ?_
      refine it_exit ?_
      refine it_exit ?_
      refine ib_exit ?_
      exact ⟨.inl rfl, rfl, .inl (by rw [nbQ_len, ← hNe, show N = k from by omega])⟩

/-- chart.grid.around -/
theorem f69 (w r p : Int) (c : Bool) : ACall Tryz.prog G 69 [.agg (eGrid w r), .v (.int .i64 p), .v (.bool c)] (.fn 118 [] [.ptr (eGrid w r), .ptr [ei p], .ptr [.v (.bool c)]]) := by
  refine acall_of Tryz.func69 rfl (by kernel_rfl) rfl ?_
  refine ac_seq ?_
  refine ac_region ?_
  refine al_y rfl rfl (y_box rfl (cE_agg rfl)) ?_
  refine al_y rfl rfl (y_box (cs := [_]) rfl (cE_v rfl)) ?_
  refine al_y rfl rfl (y_box (cs := [_]) rfl (cE_v rfl)) ?_
  refine al_y rfl rfl (y_assignV rfl rfl) ?_
  refine al_nil ?_
  refine qt_normal ?_
  refine ac_seq ?_
  refine ac_region ?_
  refine al_y rfl rfl (y_makeFunc (fs := []) (cs := [_, _, _]) rfl rfl rfl) ?_
  refine al_y rfl rfl (y_assignP rfl rfl) ?_
  refine al_nil ?_
  refine qt_normal ?_
  refine ac_ret ?_
  exact ⟨.inr rfl, AVle.refl _⟩
end Go.Av
end

section
namespace Go.Av
open Go.Proofs
set_option maxRecDepth 100000
set_option maxHeartbeats 1000000
set_option linter.unusedSimpArgs false
variable {G : Glob}

/-- Some neighbour of a point has a value that is too far away. -/
def farN (m : Mp) (f : Fld) (i q : Nat) : Bool := decide (m.slope < absd (f.vals.getD i 0) (f.vals.getD q 0))
def nearN (m : Mp) (f : Fld) (i : Nat) : Bool := (nbs m.wide m.rows (i : Int) false).any fun q => farN m f i q
def pfits (m : Mp) (f : Fld) : Bool := (rowsOf f == m.rows) && (f.wide == m.wide) && !(m.st.any (offB f)) && !((List.range f.vals.length).any (nearN m f))
theorem anyR_no {n k : Nat} {h : Nat → Bool} (h0 : ∀ i < k, h i = false) (hn : n ≤ k) : (List.range n).any h = false := by
  rw [List.any_eq_false]
  intro x hx
  have := h0 x (by have := List.mem_range.1 hx; omega)
  simp [this]
theorem anyR_yes {n k : Nat} {h : Nat → Bool} (hk : k < n) (h0 : h k = true) : (List.range n).any h = true := List.any_eq_true.2 ⟨k, List.mem_range.2 hk, h0⟩

/-- chart.Fits -/
theorem f54_shape (m : Mp) (f : Fld) (hl : f.vals.length ≤ 1000) (hs : shapeB f = false) : ACall Tryz.prog G 54 [.agg (eMp m), .agg (eFld f)] (.tup [.v (.bool false), ei 2]) := by
  refine acall_of Tryz.func54 rfl (by kernel_rfl) rfl ?_
  refine ac_seq ?_
  refine ac_region ?_
  refine al_y rfl rfl (y_box rfl (cE_agg rfl)) ?_
  refine al_y rfl rfl (y_box rfl (cE_agg rfl)) ?_
  refine al_m rfl (m_alloc rfl rfl zv4 rfl rfl) ?_
  refine al_m rfl (m_alloc rfl rfl zv30 rfl rfl) ?_
  refine al_nil ?_
  refine qt_normal ?_
  refine ac_seq ?_
  refine ac_region ?_
  refine al_y rfl rfl (y_loadN rfl rfl ty29 (by exact Nat.le_of_ble_eq_true rfl)) ?_
  refine al_y rfl rfl (y_callF (av := [_]) rfl ⟨rfl, trivial⟩ (f67_bad f hl hs)) ?_
  refine al_y rfl rfl (y_moveP rfl rfl) ?_
  refine al_y rfl rfl (y_extract rfl rfl rfl) ?_
  refine al_y rfl rfl (y_extract rfl rfl rfl) ?_
  refine al_y rfl rfl (y_assignV rfl rfl) ?_
  refine al_y rfl rfl (y_assignV rfl rfl) ?_
  refine al_nil ?_
  refine qt_normal ?_
  refine ac_seq ?_
  refine ac_seq ?_
  refine ac_region ?_
  refine al_y rfl rfl (y_loadN rfl rfl ty24 (by exact Nat.le_of_ble_eq_true rfl)) ?_
  refine al_y rfl rfl (y_callF (av := [_]) rfl ⟨rfl, trivial⟩ (f99 m)) ?_
  refine al_y rfl rfl (y_not rfl rfl) ?_
  refine al_y rfl rfl (y_moveV rfl rfl) ?_
  refine al_maybe rfl rfl rfl (fun hg => y_moveV rfl rfl) ?_
  refine al_maybe rfl rfl rfl (fun hg => y_not rfl (if_pos hg)) ?_
  refine al_y rfl rfl (y_or rfl rfl rfl rfl) ?_
  refine al_nil ?_
  refine qt_normal ?_
  refine ac_cond rfl (fun h0 => ?_) (fun h0 => ?_)
  · skip
    refine ac_seq ?_
    refine ac_region ?_
    refine al_m rfl (m_store rfl rfl rfl rfl rfl rfl (cE_v rfl) ty4 (by rfl) (by exact Nat.le_of_ble_eq_true rfl)) ?_
    refine al_m rfl (m_store rfl rfl rfl rfl rfl rfl (cE_v rfl) ty30 (by rfl) (by exact Nat.le_of_ble_eq_true rfl)) ?_
    refine al_nil ?_
    refine qt_normal ?_
    refine ac_ret ?_
    refine qt_ret ?_
    exact ⟨.inr rfl, ⟨_, rfl, ⟨_, _, rfl, (res_cell1 rfl rfl rfl rfl ty4 rfl (AVle.refl _)), ⟨_, _, rfl, (res_cell1 rfl rfl rfl rfl ty30 rfl (AVle.refl _)), rfl⟩⟩⟩⟩
  · skip
    exfalso; simp at h0

/-- chart.Fits -/
theorem f54_bad (m : Mp) (f : Fld) (hl : f.vals.length ≤ 1000) (hs : shapeB f = true) (hb : (mapB m && valsB f) = false) : ACall Tryz.prog G 54 [.agg (eMp m), .agg (eFld f)] (.tup [.v (.bool false), ei 2]) := by
  refine acall_of Tryz.func54 rfl (by kernel_rfl) rfl ?_
  refine ac_seq ?_
  refine ac_region ?_
  refine al_y rfl rfl (y_box rfl (cE_agg rfl)) ?_
  refine al_y rfl rfl (y_box rfl (cE_agg rfl)) ?_
  refine al_m rfl (m_alloc rfl rfl zv4 rfl rfl) ?_
  refine al_m rfl (m_alloc rfl rfl zv30 rfl rfl) ?_
  refine al_nil ?_
  refine qt_normal ?_
  refine ac_seq ?_
  refine ac_region ?_
  refine al_y rfl rfl (y_loadN rfl rfl ty29 (by exact Nat.le_of_ble_eq_true rfl)) ?_
  refine al_y rfl rfl (y_callF (av := [_]) rfl ⟨rfl, trivial⟩ (f67_ok f hl hs)) ?_
  refine al_y rfl rfl (y_moveP rfl rfl) ?_
  refine al_y rfl rfl (y_extract rfl rfl rfl) ?_
  refine al_y rfl rfl (y_extract rfl rfl rfl) ?_
  refine al_y rfl rfl (y_assignV rfl rfl) ?_
  refine al_y rfl rfl (y_assignV rfl rfl) ?_
  refine al_nil ?_
  refine qt_normal ?_
  refine ac_seq ?_
  refine ac_seq ?_
  refine ac_region ?_
  refine al_y rfl rfl (y_loadN rfl rfl ty24 (by exact Nat.le_of_ble_eq_true rfl)) ?_
  refine al_y rfl rfl (y_callF (av := [_]) rfl ⟨rfl, trivial⟩ (f99 m)) ?_
  refine al_y rfl rfl (y_not rfl rfl) ?_
  refine al_y rfl rfl (y_moveV rfl rfl) ?_
  refine al_maybe rfl rfl rfl (fun hg => y_moveV rfl rfl) ?_
  refine al_maybe rfl rfl rfl (fun hg => y_not rfl (if_pos hg)) ?_
  refine al_y rfl rfl (y_or rfl rfl rfl rfl) ?_
  refine al_nil ?_
  refine qt_normal ?_
  refine ac_cond rfl (fun h0 => ?_) (fun h0 => ?_)
  · skip
    refine ac_seq ?_
    refine ac_region ?_
    refine al_m rfl (m_store rfl rfl rfl rfl rfl rfl (cE_v rfl) ty4 (by rfl) (by exact Nat.le_of_ble_eq_true rfl)) ?_
    refine al_m rfl (m_store rfl rfl rfl rfl rfl rfl (cE_v rfl) ty30 (by rfl) (by exact Nat.le_of_ble_eq_true rfl)) ?_
    refine al_nil ?_
    refine qt_normal ?_
    refine ac_ret ?_
    refine qt_ret ?_
    exact ⟨.inr rfl, ⟨_, rfl, ⟨_, _, rfl, (res_cell1 rfl rfl rfl rfl ty4 rfl (AVle.refl _)), ⟨_, _, rfl, (res_cell1 rfl rfl rfl rfl ty30 rfl (AVle.refl _)), rfl⟩⟩⟩⟩
  · skip
    exfalso; simp at h0; simp [h0.1, h0.2] at hb

theorem nbQ_l1 {w r p : Int} {c : Bool} : ∀ q ∈ nbQ w r p c, q.length = 1 := fun q hq => by
  obtain ⟨x, _, rfl⟩ := List.mem_map.1 hq; rfl
theorem nbQ_get {w r p : Int} {c : Bool} {j : Nat} {q : List AV} (h : (nbQ w r p c)[j]? = some q) : ∃ x, (nbs w r p c)[j]? = some x ∧ q = [ei (x : Int)] := by
  unfold nbQ at h
  rw [List.getElem?_map] at h
  cases hx : (nbs w r p c)[j]? with
  | none => rw [hx] at h; cases h
  | some x => rw [hx] at h; injection h with h; exact ⟨x, rfl, h.symm⟩
theorem any_take' {α : Type} {p : α → Bool} {l : List α} {k : Nat} {x : α} (h : (l.take k).any p = false) (hk : l[k]? = some x) (hp : p x = false) : (l.take (k + 1)).any p = false := by
  have hlt := (List.getElem?_eq_some_iff.1 hk).1
  have he := (List.getElem?_eq_some_iff.1 hk).2
  rw [List.take_add_one, hk]; simp [h, hp]
theorem any_some {α : Type} {p : α → Bool} {l : List α} {k : Nat} {x : α} (hk : l[k]? = some x) (hp : p x = true) : l.any p = true := List.any_eq_true.2 ⟨x, List.mem_of_getElem? hk, hp⟩
theorem shape_len {f : Fld} (hs : shapeB f = true) : 1 ≤ f.wide ∧ f.wide ≤ 6 ∧ 1 ≤ rowsOf f ∧ rowsOf f ≤ 5 ∧ (f.vals.length : Int) = f.wide * rowsOf f := by
  unfold shapeB at hs
  simp only [Bool.and_eq_true, beq_iff_eq] at hs
  obtain ⟨h1, h2, h3⟩ := hs
  have h1 := inB_iff.1 h1
  have h3 := inB_iff.1 h3
  have := Int.mul_ediv_add_emod (f.vals.length : Int) f.wide
  unfold rowsOf
  exact ⟨h1.1, h1.2, h3.1, h3.2, by omega⟩
theorem vals_bd {f : Fld} (hv : valsB f = true) : ∀ n ∈ f.vals, 0 ≤ n ∧ n ≤ 99999 := fun n hn => by
  unfold valsB at hv
  simp only [Bool.not_eq_true', List.any_eq_false] at hv
  exact inB_iff.1 (by have := hv n hn; simpa using this)
theorem absd_eq {a b : Int} : absd a b = absd b a := by unfold absd; omega

/-- chart.Fits -/
theorem f54_ok (m : Mp) (f : Fld) (hl : f.vals.length ≤ 1000) (hs : shapeB f = true) (hv : valsB f = true) (hm : okM m) : ACall Tryz.prog G 54 [.agg (eMp m), .agg (eFld f)] (.tup [.v (.bool (pfits m f)), ei 0]) := by
  have hsl := shape_len hs
  have hvb := vals_bd hv
  have ho := hm
  obtain ⟨m1, m2, m3, m4, m5, m6, m7, m8⟩ := ho
  have har := area m1 m2 m3 m4
  refine acall_of Tryz.func54 rfl (by kernel_rfl) rfl ?_
  refine ac_seq ?_
  refine ac_region ?_
  refine al_y rfl rfl (y_box rfl (cE_agg rfl)) ?_
  refine al_y rfl rfl (y_box rfl (cE_agg rfl)) ?_
  refine al_m rfl (m_alloc rfl rfl zv4 rfl rfl) ?_
  refine al_m rfl (m_alloc rfl rfl zv30 rfl rfl) ?_
  refine al_nil ?_
  refine qt_normal ?_
  refine ac_seq ?_
  refine ac_region ?_
  refine al_y rfl rfl (y_loadN rfl rfl ty29 (by exact Nat.le_of_ble_eq_true rfl)) ?_
  refine al_y rfl rfl (y_callF (av := [_]) rfl ⟨rfl, trivial⟩ (f67_ok f hl hs)) ?_
  refine al_y rfl rfl (y_moveP rfl rfl) ?_
  refine al_y rfl rfl (y_extract rfl rfl rfl) ?_
  refine al_y rfl rfl (y_extract rfl rfl rfl) ?_
  refine al_y rfl rfl (y_assignV rfl rfl) ?_
  refine al_y rfl rfl (y_assignV rfl rfl) ?_
  refine al_nil ?_
  refine qt_normal ?_
  refine ac_seq ?_
  refine ac_seq ?_
  refine ac_region ?_
  refine al_y rfl rfl (y_loadN rfl rfl ty24 (by exact Nat.le_of_ble_eq_true rfl)) ?_
  refine al_y rfl rfl (y_callF (av := [_]) rfl ⟨rfl, trivial⟩ (f99 m)) ?_
  refine al_y rfl rfl (y_not rfl rfl) ?_
  refine al_y rfl rfl (y_moveV rfl rfl) ?_
  refine al_maybe rfl rfl rfl (fun hg => y_moveV rfl rfl) ?_
  refine al_maybe rfl rfl rfl (fun hg => y_not rfl (if_pos hg)) ?_
  refine al_y rfl rfl (y_or rfl rfl rfl rfl) ?_
  refine al_nil ?_
  refine qt_normal ?_
  refine ac_cond rfl (fun h0 => ?_) (fun h0 => ?_)
  · skip
    exfalso; simp [hv, (okM_iff m).2 hm] at h0
  · skip
    refine ac_skip ?_
    refine qt_normal ?_
    refine ac_seq ?_
    refine ac_seq ?_
    refine ac_region ?_
    refine al_y rfl rfl (y_fieldAddr rfl rfl fld29_0) ?_
    refine al_y rfl rfl (y_load1 rfl rfl rfl ty3) ?_
    refine al_y rfl rfl (y_fieldAddr rfl rfl fld24_0) ?_
    refine al_y rfl rfl (y_load1 rfl rfl rfl ty3) ?_
    refine al_y rfl rfl (y_neq rfl rfl rfl) ?_
    refine al_y rfl rfl (y_moveV rfl rfl) ?_
    refine al_maybe rfl rfl rfl (fun hg => y_moveV rfl rfl) ?_
    refine al_maybe rfl rfl rfl (fun hg => y_fieldAddr rfl rfl fld24_1) ?_
    refine al_maybe rfl rfl rfl (fun hg => y_load1 rfl (if_pos hg) rfl ty3) ?_
    refine al_maybe rfl rfl rfl (fun hg => y_neq rfl (if_pos hg) (if_pos hg)) ?_
    refine al_y rfl rfl (y_or rfl rfl rfl rfl) ?_
    refine al_nil ?_
    refine qt_normal ?_
    refine ac_cond rfl (fun h1 => ?_) (fun h1 => ?_)
    · skip
      have hne : pfits m f = false := by unfold pfits; simp at h0 h1; cases e1 : (rowsOf f == m.rows) <;> cases e2 : (f.wide == m.wide) <;> simp_all
      refine ac_seq ?_
      refine ac_region ?_
      refine al_m rfl (m_store rfl rfl rfl rfl rfl rfl (cE_v rfl) ty4 (by rfl) (by exact Nat.le_of_ble_eq_true rfl)) ?_
      refine al_m rfl (m_store rfl rfl rfl rfl rfl rfl (cE_v rfl) ty30 (by rfl) (by exact Nat.le_of_ble_eq_true rfl)) ?_
      refine al_nil ?_
      refine qt_normal ?_
      refine ac_ret ?_
      refine qt_ret ?_
      exact ⟨.inr rfl, ⟨_, rfl, ⟨_, _, rfl, (res_cell1 rfl rfl rfl rfl ty4 rfl (AVle.of (by rw [hne]))), ⟨_, _, rfl, (res_cell1 rfl rfl rfl rfl ty30 rfl (AVle.refl _)), rfl⟩⟩⟩⟩
    · skip
      have hsz : rowsOf f = m.rows ∧ f.wide = m.wide := by simp at h1; exact ⟨h1.2, h1.1⟩
      have hlen : (f.vals.length : Int) = m.wide * m.rows := by rw [← hsz.1, ← hsz.2]; exact hsl.2.2.2.2
      refine ac_skip ?_
      refine qt_normal ?_
      refine ac_seq ?_
      refine ac_region ?_
      refine al_y rfl rfl (y_loadN rfl rfl ty24 (by exact Nat.le_of_ble_eq_true rfl)) ?_
      refine al_y rfl rfl (y_callF (av := [_]) rfl ⟨rfl, trivial⟩ (f100 m)) ?_
      refine al_pair  rfl rfl rfl rfl rfl rfl rfl zv101 ty101 rfl (by rfl) (cE_agg rfl) rfl ?_
      refine al_nil ?_
      refine qt_normal ?_
      refine ac_seq ?_
      refine ac_region ?_
      refine al_y rfl rfl (y_fieldAddr rfl rfl fld24_3) ?_
      refine al_y rfl rfl (y_load1 rfl rfl rfl ty22) ?_
      refine al_y rfl rfl (y_makeFunc (fs := []) (cs := [_]) rfl rfl rfl) ?_
      refine al_y rfl rfl (y_callF (av := [_, _]) rfl ⟨rfl, rfl, trivial⟩ (f103 m.st (offB f) 104 [] [.ptr (eFld f)] (by omega) (fun s hs => f104 f s (by have := m8 s hs; omega) (by have := m8 s hs; omega)))) ?_
      refine al_y rfl rfl (y_moveP rfl rfl) ?_
      refine al_y rfl rfl (y_extract rfl rfl rfl) ?_
      refine al_y rfl rfl (y_extract rfl rfl rfl) ?_
      refine al_pair  rfl rfl rfl rfl rfl rfl rfl zv78 ty78 rfl (by rfl) (cE_agg rfl) rfl ?_
      refine al_y rfl rfl (y_assignV rfl rfl) ?_
      refine al_nil ?_
      refine qt_normal ?_
      refine ac_seq ?_
      refine ac_seq ?_
      refine ac_region ?_
      refine al_y rfl rfl (y_moveV rfl rfl) ?_
      refine al_nil ?_
      refine qt_normal ?_
      refine ac_cond rfl (fun h2 => ?_) (fun h2 => ?_)
      · skip
        have hne : pfits m f = false := by unfold pfits; rw [h2]; simp
        refine ac_seq ?_
        refine ac_region ?_
        refine al_m rfl (m_store rfl rfl rfl rfl rfl rfl (cE_v rfl) ty4 (by rfl) (by exact Nat.le_of_ble_eq_true rfl)) ?_
        refine al_m rfl (m_store rfl rfl rfl rfl rfl rfl (cE_v rfl) ty30 (by rfl) (by exact Nat.le_of_ble_eq_true rfl)) ?_
        refine al_nil ?_
        refine qt_normal ?_
        refine ac_ret ?_
        refine qt_ret ?_
        exact ⟨.inr rfl, ⟨_, rfl, ⟨_, _, rfl, (res_cell1 rfl rfl rfl rfl ty4 rfl (AVle.of (by rw [hne]))), ⟨_, _, rfl, (res_cell1 rfl rfl rfl rfl ty30 rfl (AVle.refl _)), rfl⟩⟩⟩⟩
      · skip
        refine ac_skip ?_
        refine qt_normal ?_
        refine ac_seq ?_
        refine ac_seq ?_
        refine ac_region ?_
        refine al_y rfl rfl (y_fieldAddr rfl rfl fld29_1) ?_
        refine al_y rfl rfl (y_load1 rfl rfl rfl ty27) ?_
        refine al_y rfl rfl (y_len rfl rfl rfl Tryz.underlying27) ?_
        refine al_y rfl rfl (y_moveV rfl rfl) ?_
        refine al_nil ?_
        refine qt_normal ?_
        refine ac_block ?_
        refine ac_weak weak_mark ?_
        refine ac_loop (ι := { k : Nat // k ≤ f.vals.length ∧ ∀ i < k, nearN m f i = false }) (fun k => ⟨(NS.of Tryz.f54.ntmps).marked, frL [(2, .pub (.ptr (eMp m))), (3, .pub (.ptr (eFld f))), (4, .pp 0 1 0 0), (5, .pp 1 1 0 0), (8, .pub (.ptr (eChart m))), (48, .pub (eInts f.vals)), (49, I ((f.vals.map fun n => [AV.v (.int .i64 n)]).length : Int)), (50, I (k.1 : Int))], [.row [[B false]], .row [[I 0]]]⟩) (fun k => f.vals.length - k.1) (⟨0, by omega, fun i h => absurd h (by omega)⟩) ?_ ?_
        · exact weak_frM _ ⟨rfl, rfl, rfl, rfl, rfl, rfl, rfl, rfl, trivial⟩ (rfl)
        · rintro ⟨k, hk⟩
          dsimp only
          refine ac_seq ?_
          refine ac_region ?_
          refine al_y rfl rfl (y_lss rfl rfl rfl) ?_
          refine al_nil ?_
          refine qt_normal ?_
          refine ac_seq ?_
          refine ac_cond rfl (fun h3 => ?_) (fun h3 => ?_)
          · skip
            have hlt : k < f.vals.length := by simpa using h3
            have v1 := hvb _ (List.getElem_mem hlt)
            refine ac_skip ?_
            refine qt_normal ?_
            refine ac_seq ?_
            refine ac_block ?_
            refine ac_seq ?_
            refine ac_region ?_
            refine al_y rfl rfl (y_moveV rfl rfl) ?_
            refine al_y rfl rfl (y_indexAddr rfl rfl rfl slc27 (by omega) (int_at hlt) int_len) ?_
            refine al_y rfl rfl (y_load1 rfl rfl rfl ty3) ?_
            refine al_pair2 (cs := [_]) rfl rfl rfl rfl rfl rfl rfl rfl (y_assignV rfl rfl) rfl rfl rfl zv3 ty3 rfl (by rfl) (cE_v rfl) rfl ?_
            refine al_nil ?_
            refine qt_normal ?_
            refine ac_seq ?_
            refine ac_region ?_
            refine al_y rfl rfl (y_fieldAddr rfl rfl fld101_1) ?_
            refine al_y rfl rfl (y_loadN rfl rfl ty99 (by exact Nat.le_of_ble_eq_true rfl)) ?_
            refine al_y rfl rfl (y_moveV rfl rfl) ?_
            refine al_y rfl rfl (y_callF (av := [_, _, _]) rfl ⟨rfl, rfl, rfl, trivial⟩ (f69 m.wide m.rows (k : Int) false)) ?_
            refine al_nil ?_
            refine qt_normal ?_
            refine ac_block ?_
            refine ac_rangeFunc (qs := nbQ m.wide m.rows (k : Int) false) [2, 3, 4, 5, 8, 48, 49, 50, 11, 12] (fun j => ((nbs m.wide m.rows (k : Int) false).take j).any (farN m f k) = false) (fun j => [.row [[B false]], .row [[I 0]]]) (by simp) rfl (it118 m.wide m.rows (k : Int) false (by omega) (by omega) (by omega)) rfl nbQ_l1 rfl rfl ?_ ?_
            · intro j q gh lp hd1 hd2 hq hV
              obtain ⟨x, hx, rfl⟩ := nbQ_get hq
              have hxm := nbs_mem.1 (List.mem_of_getElem? hx)
              have hxl : x < f.vals.length := by omega
              have v2 := hvb _ (List.getElem_mem hxl)
              refine ac_region ?_
              refine al_y rfl rfl (y_assignV rfl rfl) ?_
              refine al_nil ?_
              refine ⟨rfl, rfl, ?_⟩
              refine ac_block ?_
              refine ac_seq ?_
              refine ac_draw mixed (by kernel_rfl) rfl ?_
              refine aq_y rfl (y_load1 rfl rfl rfl ty3) ?_
              refine aq_y rfl (y_fieldAddr rfl rfl fld29_1) ?_
              refine aq_y rfl (y_load1 rfl rfl rfl ty27) ?_
              refine aq_y rfl (y_moveV rfl rfl) ?_
              refine aq_y rfl (y_indexAddr rfl rfl rfl slc27 (by omega) (int_at hxl) int_len) ?_
              refine aq_y rfl (y_load1 rfl rfl rfl ty3) ?_
              refine aq_y rfl (y_callF (av := [_, _]) rfl ⟨rfl, rfl, trivial⟩ (f105 _ _ (by omega) (by omega))) ?_
              refine aq_y rfl (y_fieldAddr rfl rfl fld24_2) ?_
              refine aq_y rfl (y_load1 rfl rfl rfl ty3) ?_
              refine aq_y rfl (y_gtr rfl rfl rfl) ?_
              refine aq_nil ?_
              refine qt_normal ?_
              refine ac_cond rfl (fun h4 => ?_) (fun h4 => ?_)
              · skip
                have hfar : farN m f k x = true := by unfold farN; rw [getD_at hlt, getD_at hxl]; simpa using h4
                have hne : pfits m f = false := by unfold pfits; rw [anyR_yes hlt (h := nearN m f) (any_some hx hfar)]; simp
                refine ac_seq ?_
                refine ac_region ?_
                refine al_m rfl (m_store rfl rfl rfl rfl rfl rfl (cE_v rfl) ty4 (by rfl) (by exact Nat.le_of_ble_eq_true rfl)) ?_
                refine al_m rfl (m_store rfl rfl rfl rfl rfl rfl (cE_v rfl) ty30 (by rfl) (by exact Nat.le_of_ble_eq_true rfl)) ?_
                refine al_nil ?_
                refine qt_normal ?_
                refine ac_ret ?_
                refine qb_ret ?_
                refine ⟨rfl, ?_⟩
                refine qb_ret ?_
                refine qb_ret ?_
                refine qt_ret ?_
                refine qt_ret ?_
                refine qb_ret ?_
                refine qt_ret ?_
                exact ⟨.inr rfl, ⟨_, rfl, ⟨_, _, rfl, (res_cell1 rfl rfl rfl rfl ty4 rfl (AVle.of (by rw [hne]))), ⟨_, _, rfl, (res_cell1 rfl rfl rfl rfl ty30 rfl (AVle.refl _)), rfl⟩⟩⟩⟩
              · skip
                have hnf : farN m f k x = false := by unfold farN; rw [getD_at hlt, getD_at hxl]; simpa using h4
                refine ac_skip ?_
                refine qb_normal ?_
                exact ⟨rfl, any_take' hV hx hnf, weak_frM (mem' := [.row [[B false]], .row [[I 0]]]) [] trivial (rfl)⟩
            · intro hVn
              have hnear : nearN m f k = false := by have h := hVn; unfold nbQ at h; rw [List.length_map, List.take_length] at h; exact h
              refine qb_normal ?_
              refine qb_normal ?_
              refine qt_normal ?_
              refine ac_region ?_
              refine al_y rfl rfl (y_add rfl rfl rfl ⟨(by omega), (by omega)⟩) ?_
              refine al_y rfl rfl (y_moveV rfl rfl) ?_
              refine al_nil ?_
              exact ⟨⟨k + 1, by omega, fun i hi => by
                              by_cases e : i = k
                              · subst e; exact hnear
                              · exact hk.2 i (by omega)⟩, by dsimp only; omega, weak_frM _ ⟨rfl, rfl, rfl, rfl, rfl, rfl, rfl, rfl, trivial⟩ (rfl)⟩
          · skip
            have hge : f.vals.length ≤ k := by simpa using h3
            refine ac_exit ?_
            refine qt_exit ?_
            refine qt_exit ?_
            refine qb_exit ?_
            refine qt_normal ?_
            refine ac_seq ?_
            refine ac_region ?_
            refine al_m rfl (m_store rfl rfl rfl rfl rfl rfl (cE_v rfl) ty4 (by rfl) (by exact Nat.le_of_ble_eq_true rfl)) ?_
            refine al_m rfl (m_store rfl rfl rfl rfl rfl rfl (cE_v rfl) ty30 (by rfl) (by exact Nat.le_of_ble_eq_true rfl)) ?_
            refine al_nil ?_
            refine qt_normal ?_
            refine ac_ret ?_
            exact ⟨.inr rfl, ⟨_, rfl, ⟨_, _, rfl, (res_cell1 rfl rfl rfl rfl ty4 rfl (AVle.of (by rw [show pfits m f = true from by unfold pfits; rw [anyR_no hk.2 hge, h2]; simp [hsz]]))), ⟨_, _, rfl, (res_cell1 rfl rfl rfl rfl ty30 rfl (AVle.refl _)), rfl⟩⟩⟩⟩
end Go.Av
end

section
namespace Go.Av
open Go.Proofs
set_option maxRecDepth 100000
set_option maxHeartbeats 1000000
set_option linter.unusedSimpArgs false
variable {G : Glob}

theorem dist_comm (w a b : Int) : dist w a b = dist w b a := by unfold dist; rw [absd_eq, @absd_eq (a % w)]
theorem dist_self (w a : Int) : dist w a a = 0 := by unfold dist absd; simp
theorem besB_f {w p : Int} {q : Nat} : besB w p false q = (dist w p (q : Int) == 1) := by unfold besB; simp
theorem near_iff {m : Mp} {f : Fld} {i : Nat} : nearN m f i = false ↔ ∀ q : Nat, q < (m.wide * m.rows).toNat → dist m.wide (i : Int) (q : Int) = 1 → farN m f i q = false := by
  unfold nearN
  rw [List.any_eq_false]
  constructor
  · intro h q hq hd
    have := h q (nbs_mem.2 ⟨hq, by rw [besB_f, hd]; rfl⟩)
    simpa using this
  · intro h q hq
    obtain ⟨h1, h2⟩ := nbs_mem.1 hq
    rw [besB_f, beq_iff_eq] at h2
    simpa using h q h1 h2
theorem pairs_iff {m : Mp} {f : Fld} : pairsB m f = true ↔ ∀ i < f.vals.length, ∀ j < i, dist f.wide (i : Int) (j : Int) = 1 → farN m f i j = false := by
  unfold pairsB nearB farN
  rw [List.all_eq_true]
  constructor
  · intro h i hi j hj hd
    have := List.all_eq_true.1 (h i (List.mem_range.2 hi)) j (List.mem_range.2 hj)
    simpa [hd] using this
  · intro h i hi
    rw [List.all_eq_true]
    intro j hj
    have := h i (List.mem_range.1 hi) j (List.mem_range.1 hj)
    by_cases hd : dist f.wide (i : Int) (j : Int) = 1
    · have := this hd; simpa [hd] using this
    · simp [hd]
theorem farN_comm {m : Mp} {f : Fld} {i j : Nat} : farN m f i j = farN m f j i := by unfold farN; rw [absd_eq]
theorem pfits_eq {m : Mp} {f : Fld} (hs : shapeB f = true) : pfits m f = fitsB m f := by
  have hsl := shape_len hs
  have e1 : (!(m.st.any (offB f))) = stnsB m f := by
    unfold stnsB offB
    rw [Bool.eq_iff_iff]
    simp [List.any_eq_false, List.all_eq_true]
  by_cases hw : f.wide = m.wide
  · by_cases hr : rowsOf f = m.rows
    · have hlen : (f.vals.length : Int) = m.wide * m.rows := by rw [← hw, ← hr]; exact hsl.2.2.2.2
      have hN : (m.wide * m.rows).toNat = f.vals.length := by omega
      have e2 : (!((List.range f.vals.length).any (nearN m f))) = pairsB m f := by
        rw [Bool.eq_iff_iff, pairs_iff]
        simp only [Bool.not_eq_true', List.any_eq_false, List.mem_range]
        constructor
        · intro h i hi j hj hd
          have := near_iff.1 (by have := h i hi; simpa using this) j (by omega) (by rw [← hw]; exact hd)
          exact this
        · intro h i hi
          have : nearN m f i = false := near_iff.2 fun q hq hd => by
            rw [hN] at hq
            rw [← hw] at hd
            rcases Nat.lt_trichotomy q i with h1 | h1 | h1
            · exact h i hi q h1 hd
            · subst h1; rw [dist_self] at hd; omega
            · rw [farN_comm]; exact h q hq i h1 (by rw [dist_comm]; exact hd)
          simpa using this
      unfold pfits fitsB sizeB
      rw [e1, e2, hw, hr, hlen]
      simp [Bool.and_comm]
    · have : sizeB m f = false := by
        unfold sizeB
        rw [hw]
        have : ¬ (f.vals.length : Int) = m.wide * m.rows := fun e => hr (by
          rw [hsl.2.2.2.2, hw] at e
          exact Int.eq_of_mul_eq_mul_left (by omega) e)
        simp [this]
      unfold pfits fitsB
      simp [this, hr]
  · have : sizeB m f = false := by unfold sizeB; simp [hw]
    unfold pfits fitsB
    simp [this, hw]
theorem f54_err (m : Mp) (f : Fld) (hl : f.vals.length ≤ 1000) (h : (mapB m && fieldB f) = false) : ACall Tryz.prog G 54 [.agg (eMp m), .agg (eFld f)] (.tup [.v (.bool false), ei 2]) := by
  cases hs : shapeB f with
  | false => exact f54_shape m f hl hs
  | true => exact f54_bad m f hl hs (by unfold fieldB at h; rw [hs] at h; simpa using h)
theorem f54_fits (m : Mp) (f : Fld) (hl : f.vals.length ≤ 1000) (hm : okM m) (hf : fieldB f = true) : ACall Tryz.prog G 54 [.agg (eMp m), .agg (eFld f)] (.tup [.v (.bool (fitsB m f)), ei 0]) := by
  unfold fieldB at hf
  rw [Bool.and_eq_true] at hf
  rw [← pfits_eq hf.1]
  exact f54_ok m f hl hf.1 hf.2 hm

/-- isobarlaw03.ChartFits -/
theorem f13_long (hk : KN G) (m : Mp) (f : Fld) (h : ¬ (m.st.length ≤ 16 ∧ f.vals.length ≤ 40)) : ACall Tryz.prog G 13 [.agg (eMp m), .agg (eFld f)] (.v (.bool true)) := by
  refine acall_of Tryz.func13 rfl (by kernel_rfl) rfl ?_
  refine ac_seq ?_
  refine ac_region ?_
  refine al_y rfl rfl (y_box rfl (cE_agg rfl)) ?_
  refine al_y rfl rfl (y_box rfl (cE_agg rfl)) ?_
  refine al_y rfl rfl (y_assignV rfl rfl) ?_
  refine al_nil ?_
  refine qt_normal ?_
  refine ac_seq ?_
  refine ac_seq ?_
  refine ac_region ?_
  refine al_y rfl rfl (y_loadN rfl rfl ty24 (by exact Nat.le_of_ble_eq_true rfl)) ?_
  refine al_y rfl rfl (y_callF (av := [_]) rfl ⟨rfl, trivial⟩ (f20 m)) ?_
  refine al_y rfl rfl (y_not rfl rfl) ?_
  refine al_y rfl rfl (y_moveV rfl rfl) ?_
  refine al_maybe rfl rfl rfl (fun hg => y_loadN rfl rfl ty29 (by exact Nat.le_of_ble_eq_true rfl)) ?_
  refine al_maybe rfl rfl rfl (fun hg => y_callF (av := [_]) rfl ⟨((if_pos hg)), trivial⟩ (f26 f)) ?_
  refine al_maybe rfl rfl rfl (fun hg => y_not rfl (if_pos hg)) ?_
  refine al_y rfl rfl (y_or rfl rfl rfl rfl) ?_
  refine al_nil ?_
  refine qt_normal ?_
  refine ac_cond rfl (fun h0 => ?_) (fun h0 => ?_)
  · skip
    refine ac_seq ?_
    refine ac_region ?_
    refine al_y rfl rfl (y_callF (av := []) rfl trivial hk) ?_
    refine al_y rfl rfl (y_assignV rfl rfl) ?_
    refine al_nil ?_
    refine qt_normal ?_
    refine ac_ret ?_
    refine qt_ret ?_
    exact ⟨.inr rfl, AVle.refl _⟩
  · skip
    exfalso; simp at h0; apply h; omega

/-- isobarlaw03.ChartFits -/
theorem f13_bad (hk : KN G) (m : Mp) (f : Fld) (hs : m.st.length ≤ 16) (hl : f.vals.length ≤ 40) (hb : (mapB m && fieldB f) = false) : ACall Tryz.prog G 13 [.agg (eMp m), .agg (eFld f)] (.v (.bool true)) := by
  refine acall_of Tryz.func13 rfl (by kernel_rfl) rfl ?_
  refine ac_seq ?_
  refine ac_region ?_
  refine al_y rfl rfl (y_box rfl (cE_agg rfl)) ?_
  refine al_y rfl rfl (y_box rfl (cE_agg rfl)) ?_
  refine al_y rfl rfl (y_assignV rfl rfl) ?_
  refine al_nil ?_
  refine qt_normal ?_
  refine ac_seq ?_
  refine ac_seq ?_
  refine ac_region ?_
  refine al_y rfl rfl (y_loadN rfl rfl ty24 (by exact Nat.le_of_ble_eq_true rfl)) ?_
  refine al_y rfl rfl (y_callF (av := [_]) rfl ⟨rfl, trivial⟩ (f20 m)) ?_
  refine al_y rfl rfl (y_not rfl rfl) ?_
  refine al_y rfl rfl (y_moveV rfl rfl) ?_
  refine al_maybe rfl rfl rfl (fun hg => y_loadN rfl rfl ty29 (by exact Nat.le_of_ble_eq_true rfl)) ?_
  refine al_maybe rfl rfl rfl (fun hg => y_callF (av := [_]) rfl ⟨((if_pos hg)), trivial⟩ (f26 f)) ?_
  refine al_maybe rfl rfl rfl (fun hg => y_not rfl (if_pos hg)) ?_
  refine al_y rfl rfl (y_or rfl rfl rfl rfl) ?_
  refine al_nil ?_
  refine qt_normal ?_
  refine ac_cond rfl (fun h0 => ?_) (fun h0 => ?_)
  · skip
    exfalso; simp at h0; omega
  · skip
    refine ac_skip ?_
    refine qt_normal ?_
    refine ac_seq ?_
    refine ac_region ?_
    refine al_y rfl rfl (y_loadN rfl rfl ty24 (by exact Nat.le_of_ble_eq_true rfl)) ?_
    refine al_y rfl rfl (y_loadN rfl rfl ty29 (by exact Nat.le_of_ble_eq_true rfl)) ?_
    refine al_y rfl rfl (y_callF (av := [_, _]) rfl ⟨rfl, rfl, trivial⟩ (f54_err m f (by omega) hb)) ?_
    refine al_y rfl rfl (y_moveP rfl rfl) ?_
    refine al_y rfl rfl (y_extract rfl rfl rfl) ?_
    refine al_y rfl rfl (y_extract rfl rfl rfl) ?_
    refine al_y rfl rfl (y_assignV rfl rfl) ?_
    refine al_y rfl rfl (y_assignV rfl rfl) ?_
    refine al_nil ?_
    refine qt_normal ?_
    refine ac_seq ?_
    refine ac_seq ?_
    refine ac_region ?_
    refine al_y rfl rfl (y_loadN rfl rfl ty24 (by exact Nat.le_of_ble_eq_true rfl)) ?_
    refine al_y rfl rfl (y_callF (av := [_]) rfl ⟨rfl, trivial⟩ (f40 m)) ?_
    refine al_y rfl rfl (y_not rfl rfl) ?_
    refine al_y rfl rfl (y_moveV rfl rfl) ?_
    refine al_maybe rfl rfl rfl (fun hg => y_loadN rfl rfl ty29 (by exact Nat.le_of_ble_eq_true rfl)) ?_
    refine al_maybe rfl rfl rfl (fun hg => y_callF (av := [_]) rfl ⟨((if_pos hg)), trivial⟩ (f28 f (by omega))) ?_
    refine al_maybe rfl rfl rfl (fun hg => y_not rfl (if_pos hg)) ?_
    refine al_y rfl rfl (y_or rfl rfl rfl rfl) ?_
    refine al_nil ?_
    refine qt_normal ?_
    refine ac_cond rfl (fun h1 => ?_) (fun h1 => ?_)
    · skip
      refine ac_seq ?_
      refine ac_region ?_
      refine al_y rfl rfl (y_moveV rfl rfl) ?_
      refine al_y rfl rfl (y_eql rfl rfl rfl) ?_
      refine al_y rfl rfl (y_moveV rfl rfl) ?_
      refine al_maybe rfl rfl rfl (fun hg => y_moveV rfl rfl) ?_
      refine al_maybe rfl rfl rfl (fun hg => y_not rfl (rfl)) ?_
      refine al_y rfl rfl (y_and rfl rfl rfl rfl) ?_
      refine al_y rfl rfl (y_moveV rfl rfl) ?_
      refine al_maybe rfl rfl rfl (fun hg => y_callF (av := []) rfl trivial hk) ?_
      refine al_y rfl rfl (y_and rfl rfl rfl rfl) ?_
      refine al_y rfl rfl (y_assignV rfl rfl) ?_
      refine al_nil ?_
      refine qt_normal ?_
      refine ac_ret ?_
      refine qt_ret ?_
      exact ⟨.inr rfl, AVle.of (by simp)⟩
    · skip
      exfalso; simp at h1; simp [h1] at hb

/-- isobarlaw03.ChartFits -/
theorem f13_ok (hk : KN G) (m : Mp) (f : Fld) (hs : m.st.length ≤ 16) (hl : f.vals.length ≤ 40) (hm : okM m) (hf : fieldB f = true) : ACall Tryz.prog G 13 [.agg (eMp m), .agg (eFld f)] (.v (.bool true)) := by
  have hb2 := (okM_iff m).2 hm
  refine acall_of Tryz.func13 rfl (by kernel_rfl) rfl ?_
  refine ac_seq ?_
  refine ac_region ?_
  refine al_y rfl rfl (y_box rfl (cE_agg rfl)) ?_
  refine al_y rfl rfl (y_box rfl (cE_agg rfl)) ?_
  refine al_y rfl rfl (y_assignV rfl rfl) ?_
  refine al_nil ?_
  refine qt_normal ?_
  refine ac_seq ?_
  refine ac_seq ?_
  refine ac_region ?_
  refine al_y rfl rfl (y_loadN rfl rfl ty24 (by exact Nat.le_of_ble_eq_true rfl)) ?_
  refine al_y rfl rfl (y_callF (av := [_]) rfl ⟨rfl, trivial⟩ (f20 m)) ?_
  refine al_y rfl rfl (y_not rfl rfl) ?_
  refine al_y rfl rfl (y_moveV rfl rfl) ?_
  refine al_maybe rfl rfl rfl (fun hg => y_loadN rfl rfl ty29 (by exact Nat.le_of_ble_eq_true rfl)) ?_
  refine al_maybe rfl rfl rfl (fun hg => y_callF (av := [_]) rfl ⟨((if_pos hg)), trivial⟩ (f26 f)) ?_
  refine al_maybe rfl rfl rfl (fun hg => y_not rfl (if_pos hg)) ?_
  refine al_y rfl rfl (y_or rfl rfl rfl rfl) ?_
  refine al_nil ?_
  refine qt_normal ?_
  refine ac_cond rfl (fun h0 => ?_) (fun h0 => ?_)
  · skip
    exfalso; simp at h0; omega
  · skip
    refine ac_skip ?_
    refine qt_normal ?_
    refine ac_seq ?_
    refine ac_region ?_
    refine al_y rfl rfl (y_loadN rfl rfl ty24 (by exact Nat.le_of_ble_eq_true rfl)) ?_
    refine al_y rfl rfl (y_loadN rfl rfl ty29 (by exact Nat.le_of_ble_eq_true rfl)) ?_
    refine al_y rfl rfl (y_callF (av := [_, _]) rfl ⟨rfl, rfl, trivial⟩ (f54_fits m f (by omega) hm hf)) ?_
    refine al_y rfl rfl (y_moveP rfl rfl) ?_
    refine al_y rfl rfl (y_extract rfl rfl rfl) ?_
    refine al_y rfl rfl (y_extract rfl rfl rfl) ?_
    refine al_y rfl rfl (y_assignV rfl rfl) ?_
    refine al_y rfl rfl (y_assignV rfl rfl) ?_
    refine al_nil ?_
    refine qt_normal ?_
    refine ac_seq ?_
    refine ac_seq ?_
    refine ac_region ?_
    refine al_y rfl rfl (y_loadN rfl rfl ty24 (by exact Nat.le_of_ble_eq_true rfl)) ?_
    refine al_y rfl rfl (y_callF (av := [_]) rfl ⟨rfl, trivial⟩ (f40 m)) ?_
    refine al_y rfl rfl (y_not rfl rfl) ?_
    refine al_y rfl rfl (y_moveV rfl rfl) ?_
    refine al_maybe rfl rfl rfl (fun hg => y_loadN rfl rfl ty29 (by exact Nat.le_of_ble_eq_true rfl)) ?_
    refine al_maybe rfl rfl rfl (fun hg => y_callF (av := [_]) rfl ⟨((if_pos hg)), trivial⟩ (f28 f (by omega))) ?_
    refine al_maybe rfl rfl rfl (fun hg => y_not rfl (if_pos hg)) ?_
    refine al_y rfl rfl (y_or rfl rfl rfl rfl) ?_
    refine al_nil ?_
    refine qt_normal ?_
    refine ac_cond rfl (fun h1 => ?_) (fun h1 => ?_)
    · skip
      exfalso; simp [hb2, hf] at h1
    · skip
      refine ac_skip ?_
      refine qt_normal ?_
      refine ac_seq ?_
      refine ac_region ?_
      refine al_y rfl rfl (y_moveV rfl rfl) ?_
      refine al_y rfl rfl (y_eql rfl rfl rfl) ?_
      refine al_y rfl rfl (y_moveV rfl rfl) ?_
      refine al_maybe rfl rfl rfl (fun hg => y_moveV rfl rfl) ?_
      refine al_maybe rfl rfl rfl (fun hg => y_loadN rfl rfl ty24 (by exact Nat.le_of_ble_eq_true rfl)) ?_
      refine al_maybe rfl rfl rfl (fun hg => y_loadN rfl rfl ty29 (by exact Nat.le_of_ble_eq_true rfl)) ?_
      refine al_maybe rfl rfl rfl (fun hg => y_callF (av := [_, _]) rfl ⟨(rfl), (rfl), trivial⟩ (f45 m f hm hf (by omega))) ?_
      refine al_maybe rfl rfl rfl (fun hg => y_eqlB rfl (rfl) (rfl) Tryz.underlying4) ?_
      refine al_y rfl rfl (y_and rfl rfl rfl rfl) ?_
      refine al_y rfl rfl (y_moveV rfl rfl) ?_
      refine al_maybe rfl rfl rfl (fun hg => y_callF (av := []) rfl trivial hk) ?_
      refine al_y rfl rfl (y_and rfl rfl rfl rfl) ?_
      refine al_y rfl rfl (y_assignV rfl rfl) ?_
      refine al_nil ?_
      refine qt_normal ?_
      refine ac_ret ?_
      exact ⟨.inr rfl, AVle.of (by simp)⟩

theorem f13 (hk : KN G) (m : Mp) (f : Fld) : ACall Tryz.prog G 13 [.agg (eMp m), .agg (eFld f)] (.v (.bool true)) := by
  by_cases h : m.st.length ≤ 16 ∧ f.vals.length ≤ 40
  · cases hb : mapB m && fieldB f with
    | false => exact f13_bad hk m f h.1 h.2 hb
    | true => rw [Bool.and_eq_true] at hb; exact f13_ok hk m f h.1 h.2 ((okM_iff m).1 hb.1) hb.2
  · exact f13_long hk m f h
end Go.Av
end
