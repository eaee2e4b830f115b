/- Stations that contradict each other. -/
import Derived.Test.YtdjncbjfejdamaaGreatDoorChB
set_option linter.unusedVariables false
set_option linter.unusedSimpArgs false
section
namespace Go.Av
open Go.Proofs
set_option maxRecDepth 100000
set_option maxHeartbeats 1000000
set_option linter.unusedSimpArgs false
variable {G : Glob}

def apartB (m : Mp) (a b : Stn) : Bool := decide (b.hi < a.lo - m.slope * dist m.wide a.pt b.pt) || decide (a.hi < b.lo - m.slope * dist m.wide a.pt b.pt)
def stnIn (s : Stn) : Prop := 0 ≤ s.pt ∧ s.pt ≤ 30 ∧ 0 ≤ s.lo ∧ s.lo ≤ 99999 ∧ 0 ≤ s.hi ∧ s.hi ≤ 99999
theorem okM.st {m : Mp} (hm : okM m) : ∀ s ∈ m.st, stnIn s := fun s hs => by
  obtain ⟨m1, m2, m3, m4, m5, m6, m7, m8⟩ := hm
  have h := m8 s hs
  have har := area m1 m2 m3 m4
  unfold stnIn; omega
/-- The first two, in order, of n that are apart. -/
def firstPair (p : Nat → Nat → Bool) (n : Nat) : Option (Nat × Nat) := (List.range n).findSome? fun i => ((List.range n).find? fun j => decide (i < j) && p i j).map fun j => (i, j)
theorem find_range {p : Nat → Bool} {n k : Nat} (hk : k < n) (hp : p k = true) (h : ∀ i < k, p i = false) : (List.range n).find? p = some k := by
  rw [List.find?_range_eq_some]
  exact ⟨hp, by simpa using hk, fun j hj => by simp [h j hj]⟩
theorem firstPair_some {p : Nat → Nat → Bool} {n i j : Nat} (hi : i < j) (hj : j < n) (hp : p i j = true) (h1 : ∀ a < i, ∀ b < n, a < b → p a b = false) (h2 : ∀ b, i < b → b < j → p i b = false) : firstPair p n = some (i, j) := by
  unfold firstPair
  have e : ∀ a, a < i → ((List.range n).find? fun j => decide (a < j) && p a j) = none := fun a ha => by
    rw [List.find?_range_eq_none]; intro b hb
    by_cases hab : a < b
    · simp [h1 a ha b hb hab]
    · simp [hab]
  have e2 : ((List.range n).find? fun b => decide (i < b) && p i b) = some j := find_range hj (by simp [hi, hp]) (fun b hb => by
    by_cases hab : i < b
    · simp [h2 b hab hb]
    · simp [hab])
  have e3 : List.range n = List.range i ++ i :: (List.range n).drop (i + 1) := by
    have : i < (List.range n).length := by simp; omega
    have h := List.take_append_drop i (List.range n)
    rw [List.drop_eq_getElem_cons this, List.take_range, List.getElem_range, Nat.min_eq_left (by omega)] at h
    exact h.symm
  generalize hf : (fun a => ((List.range n).find? fun j => decide (a < j) && p a j).map fun j => (a, j)) = f
  have hfi : f i = some (i, j) := by rw [← hf]; simp only [e2, Option.map_some]
  have hfn : ∀ a ∈ List.range i, f a = none := fun a ha => by rw [← hf]; simp only [e a (List.mem_range.1 ha), Option.map_none]
  rw [e3, List.findSome?_append, List.findSome?_eq_none_iff.2 hfn, Option.none_or, List.findSome?_cons, hfi]
theorem firstPair_none {p : Nat → Nat → Bool} {n : Nat} (h : ∀ a < n, ∀ b < n, a < b → p a b = false) : firstPair p n = none := by
  unfold firstPair
  rw [List.findSome?_eq_none_iff]; intro a ha
  rw [Option.map_eq_none_iff, List.find?_range_eq_none]; intro b hb
  by_cases hab : a < b
  · simp [h a (List.mem_range.1 ha) b hb hab]
  · simp [hab]
def pairB (m : Mp) (i j : Nat) : Bool := apartB m (m.st.getD i zStn) (m.st.getD j zStn)
def clashOf (m : Mp) : Option (Nat × Nat) := firstPair (pairB m) m.st.length
theorem pairB_at {m : Mp} {i j : Nat} (hi : i < m.st.length) (hj : j < m.st.length) : pairB m i j = apartB m m.st[i] m.st[j] := by
  unfold pairB; rw [show m.st.getD i zStn = m.st[i] by simp [List.getD, hi], show m.st.getD j zStn = m.st[j] by simp [List.getD, hj]]
def eClash : Option (Nat × Nat) → AV
  | some (i, j) => .tup [ei i, ei j, .v (.bool true)]
  | none => .tup [ei 0, ei 0, .v (.bool false)]

/-- chart.chart.apart -/
theorem f138 (m : Mp) (a b : Stn) (hm : okM m) (ha : stnIn a) (hb : stnIn b) : ACall Tryz.prog G 138 [.agg (eChart m), .agg (eStn a), .agg (eStn b)] (.v (.bool (apartB m a b))) := by
  obtain ⟨m1, m2, m3, m4, m5, m6, m7, m8⟩ := hm
  obtain ⟨a1, a2, a3, a4, a5, a6⟩ := ha
  obtain ⟨b1, b2, b3, b4, b5, b6⟩ := hb
  have hd := dist_bd (N := 30) (w := m.wide) (a := a.pt) (b := b.pt) m1 (by omega) (by omega)
  have hsd := sd_bd m5 m6 hd.1 (by omega : dist m.wide a.pt b.pt ≤ 100)
  refine acall_of Tryz.func138 rfl (by kernel_rfl) rfl ?_
  refine ac_seq ?_
  refine ac_region ?_
  refine al_y rfl rfl (y_box rfl (cE_agg rfl)) ?_
  refine al_y rfl rfl (y_box rfl (cE_agg rfl)) ?_
  refine al_y rfl rfl (y_box rfl (cE_agg rfl)) ?_
  refine al_y rfl rfl (y_assignV rfl rfl) ?_
  refine al_nil ?_
  refine qt_normal ?_
  refine ac_seq ?_
  refine ac_draw mixed (by kernel_rfl) rfl ?_
  refine aq_y rfl (y_fieldAddr rfl rfl fld101_0) ?_
  refine aq_y rfl (y_fieldAddr rfl rfl fld24_2) ?_
  refine aq_y rfl (y_load1 rfl rfl rfl ty3) ?_
  refine aq_y rfl (y_fieldAddr rfl rfl fld101_1) ?_
  refine aq_y rfl (y_loadN rfl rfl ty99 (by exact Nat.le_of_ble_eq_true rfl)) ?_
  refine aq_y rfl (y_fieldAddr rfl rfl fld78_0) ?_
  refine aq_y rfl (y_load1 rfl rfl rfl ty3) ?_
  refine aq_y rfl (y_fieldAddr rfl rfl fld78_0) ?_
  refine aq_y rfl (y_load1 rfl rfl rfl ty3) ?_
  refine aq_y rfl (y_callF (av := [_, _, _]) rfl ⟨rfl, rfl, rfl, trivial⟩ (f119 m.wide m.rows _ _ (by omega) (by omega) (by omega))) ?_
  refine aq_y rfl (y_mul rfl rfl rfl ⟨(by omega), (by omega)⟩) ?_
  refine aq_y rfl (y_assignV rfl rfl) ?_
  refine aq_nil ?_
  refine qt_normal ?_
  refine ac_seq ?_
  refine ac_region ?_
  refine al_y rfl rfl (y_fieldAddr rfl rfl fld78_1) ?_
  refine al_y rfl rfl (y_fieldAddr rfl rfl fld76_0) ?_
  refine al_y rfl rfl (y_load1 rfl rfl rfl ty3) ?_
  refine al_y rfl rfl (y_moveV rfl rfl) ?_
  refine al_y rfl rfl (y_sub rfl rfl rfl ⟨(by omega), (by omega)⟩) ?_
  refine al_y rfl rfl (y_fieldAddr rfl rfl fld78_1) ?_
  refine al_y rfl rfl (y_fieldAddr rfl rfl fld76_1) ?_
  refine al_y rfl rfl (y_load1 rfl rfl rfl ty3) ?_
  refine al_y rfl rfl (y_gtr rfl rfl rfl) ?_
  refine al_y rfl rfl (y_moveV rfl rfl) ?_
  refine al_maybe rfl rfl rfl (fun hg => y_fieldAddr rfl rfl fld78_1) ?_
  refine al_maybe rfl rfl rfl (fun hg => y_fieldAddr rfl (if_pos hg) fld76_0) ?_
  refine al_maybe rfl rfl rfl (fun hg => y_load1 rfl (if_pos hg) rfl ty3) ?_
  refine al_maybe rfl rfl rfl (fun hg => y_moveV rfl rfl) ?_
  refine al_maybe rfl rfl rfl (fun hg => y_sub rfl (if_pos hg) (if_pos hg) ⟨(by first | omega | (simp at hg; omega)), (by first | omega | (simp at hg; omega))⟩) ?_
  refine al_maybe rfl rfl rfl (fun hg => y_fieldAddr rfl rfl fld78_1) ?_
  refine al_maybe rfl rfl rfl (fun hg => y_fieldAddr rfl (if_pos hg) fld76_1) ?_
  refine al_maybe rfl rfl rfl (fun hg => y_load1 rfl (if_pos hg) rfl ty3) ?_
  refine al_maybe rfl rfl rfl (fun hg => y_gtr rfl (if_pos hg) (if_pos hg)) ?_
  refine al_y rfl rfl (y_or rfl rfl rfl rfl) ?_
  refine al_y rfl rfl (y_assignV rfl rfl) ?_
  refine al_nil ?_
  refine qt_normal ?_
  refine ac_ret ?_
  exact ⟨.inr rfl, AVle.refl _⟩

/-- chart.chart.clash -/
theorem f101 (m : Mp) (hm : okM m) : ACall Tryz.prog G 101 [.agg (eChart m)] (eClash (clashOf m)) := by
  have hln := hm.2.2.2.2.2.2.1
  refine acall_of Tryz.func101 rfl (by kernel_rfl) rfl ?_
  refine ac_seq ?_
  refine ac_region ?_
  refine al_y rfl rfl (y_box rfl (cE_agg rfl)) ?_
  refine al_y rfl rfl (y_assignV rfl rfl) ?_
  refine al_y rfl rfl (y_assignV rfl rfl) ?_
  refine al_y rfl rfl (y_assignV rfl rfl) ?_
  refine al_nil ?_
  refine qt_normal ?_
  refine ac_seq ?_
  refine ac_seq ?_
  refine ac_region ?_
  refine al_y rfl rfl (y_fieldAddr rfl rfl fld101_0) ?_
  refine al_y rfl rfl (y_fieldAddr rfl rfl fld24_3) ?_
  refine al_y rfl rfl (y_load1 rfl rfl rfl ty22) ?_
  refine al_y rfl rfl (y_len rfl rfl rfl Tryz.underlying22) ?_
  refine al_y rfl rfl (y_moveV rfl rfl) ?_
  refine al_nil ?_
  refine qt_normal ?_
  refine ac_block ?_
  refine ac_loop (ι := { k : Nat // k ≤ m.st.length ∧ ∀ a < k, ∀ b < m.st.length, a < b → pairB m a b = false }) (fun k => ⟨Tryz.f101.ntmps, frL [(1, .pub (.ptr (eChart m))), (10, .pub (.sl (m.st.map eStn))), (11, I (m.st.length : Int)), (12, I (k.1 : Int))], []⟩) (fun k => m.st.length - k.1) (⟨0, by omega, fun a ha => absurd ha (by omega)⟩) ?_ ?_
  · exact weak_frM _ ⟨rfl, rfl, (congrArg (fun x : Nat => I (x : Int)) (List.length_map _)), rfl, trivial⟩ (rfl)
  · rintro ⟨k, hk⟩
    dsimp only
    refine ac_seq ?_
    refine ac_region ?_
    refine al_y rfl rfl (y_lss rfl rfl rfl) ?_
    refine al_nil ?_
    refine qt_normal ?_
    refine ac_seq ?_
    refine ac_cond rfl (fun h0 => ?_) (fun h0 => ?_)
    · skip
      have hlt : k < m.st.length := by simpa using h0
      refine ac_skip ?_
      refine qt_normal ?_
      refine ac_seq ?_
      refine ac_block ?_
      refine ac_seq ?_
      refine ac_region ?_
      refine al_y rfl rfl (y_moveV rfl rfl) ?_
      refine al_y rfl rfl (y_indexAddr rfl rfl rfl slc22 (by omega) (row_at hlt) stn_len) ?_
      refine al_y rfl rfl (y_loadN rfl rfl ty78 (by exact Nat.le_of_ble_eq_true rfl)) ?_
      refine al_pair2  rfl rfl rfl rfl rfl rfl rfl rfl (y_assignV rfl rfl) rfl rfl rfl zv78 ty78 rfl (by rfl) (cE_agg rfl) rfl ?_
      refine al_nil ?_
      refine qt_normal ?_
      refine ac_seq ?_
      refine ac_region ?_
      refine al_y rfl rfl (y_moveV rfl rfl) ?_
      refine al_y rfl rfl (y_add rfl rfl rfl ⟨(by omega), (by omega)⟩) ?_
      refine al_y rfl rfl (y_assignV rfl rfl) ?_
      refine al_nil ?_
      refine qt_normal ?_
      refine ac_block ?_
      refine ac_loop (ι := { j : Nat // k < j ∧ j ≤ m.st.length ∧ ∀ b, k < b → b < j → b < m.st.length → pairB m k b = false }) (fun j => ⟨Tryz.f101.ntmps, frL [(1, .pub (.ptr (eChart m))), (10, .pub (.sl (m.st.map eStn))), (11, I (m.st.length : Int)), (12, I (k : Int)), (5, I (k : Int)), (6, .pub (.ptr (eStn m.st[k]))), (7, I (j.1 : Int))], []⟩) (fun j => m.st.length - j.1) (⟨k + 1, by omega, by omega, fun b h1 h2 => absurd h1 (by omega)⟩) ?_ ?_
      · exact weak_frM _ ⟨rfl, rfl, rfl, rfl, rfl, rfl, rfl, trivial⟩ (rfl)
      · rintro ⟨j, hj⟩
        dsimp only
        refine ac_seq ?_
        refine ac_seq ?_
        refine ac_region ?_
        refine al_y rfl rfl (y_moveV rfl rfl) ?_
        refine al_y rfl rfl (y_fieldAddr rfl rfl fld101_0) ?_
        refine al_y rfl rfl (y_fieldAddr rfl rfl fld24_3) ?_
        refine al_y rfl rfl (y_load1 rfl rfl rfl ty22) ?_
        refine al_y rfl rfl (y_len rfl rfl rfl Tryz.underlying22) ?_
        refine al_y rfl rfl (y_lss rfl rfl rfl) ?_
        refine al_nil ?_
        refine qt_normal ?_
        refine ac_cond rfl (fun h1 => ?_) (fun h1 => ?_)
        · skip
          have hjt : j < m.st.length := by simp at h1; omega
          refine ac_skip ?_
          refine qt_normal ?_
          refine ac_seq ?_
          refine ac_block ?_
          refine ac_seq ?_
          refine ac_draw mixed (by kernel_rfl) rfl ?_
          refine aq_y rfl (y_loadN rfl rfl ty101 (by exact Nat.le_of_ble_eq_true rfl)) ?_
          refine aq_y rfl (y_loadN rfl rfl ty78 (by exact Nat.le_of_ble_eq_true rfl)) ?_
          refine aq_y rfl (y_fieldAddr rfl rfl fld101_0) ?_
          refine aq_y rfl (y_fieldAddr rfl rfl fld24_3) ?_
          refine aq_y rfl (y_load1 rfl rfl rfl ty22) ?_
          refine aq_y rfl (y_moveV rfl rfl) ?_
          refine aq_y rfl (y_indexAddr rfl rfl rfl slc22 (by omega) (row_at hjt) stn_len) ?_
          refine aq_y rfl (y_loadN rfl rfl ty78 (by exact Nat.le_of_ble_eq_true rfl)) ?_
          refine aq_y rfl (y_callF (av := [_, _, _]) rfl ⟨rfl, rfl, rfl, trivial⟩ (f138 m _ _ hm (hm.st _ (List.getElem_mem hlt)) (hm.st _ (List.getElem_mem hjt)))) ?_
          refine aq_nil ?_
          refine qt_normal ?_
          refine ac_cond rfl (fun h2 => ?_) (fun h2 => ?_)
          · skip
            have hyes : pairB m k j = true := (pairB_at hlt hjt).trans h2
            have hc : clashOf m = some (k, j) := firstPair_some hj.1 hjt hyes hk.2 (fun b b1 b2 => hj.2.2 b b1 b2 (by omega))
            refine ac_seq ?_
            refine ac_region ?_
            refine al_y rfl rfl (y_moveV rfl rfl) ?_
            refine al_y rfl rfl (y_moveV rfl rfl) ?_
            refine al_y rfl rfl (y_assignV rfl rfl) ?_
            refine al_y rfl rfl (y_assignV rfl rfl) ?_
            refine al_y rfl rfl (y_assignV rfl rfl) ?_
            refine al_nil ?_
            refine qt_normal ?_
            refine ac_ret ?_
            refine qb_ret ?_
            refine qt_ret ?_
            refine qt_ret ?_
            refine qb_ret ?_
            refine qb_ret ?_
            refine qt_ret ?_
            refine qt_ret ?_
            refine qb_ret ?_
            refine qt_ret ?_
            refine ⟨.inr rfl, ?_⟩
            rw [hc]
            exact ⟨_, rfl, ⟨_, _, rfl, AVle.refl _, ⟨_, _, rfl, AVle.refl _, ⟨_, _, rfl, AVle.refl _, rfl⟩⟩⟩⟩
          · skip
            have hno : pairB m k j = false := (pairB_at hlt hjt).trans h2
            refine ac_skip ?_
            refine qb_normal ?_
            refine qt_normal ?_
            refine ac_region ?_
            refine al_y rfl rfl (y_moveV rfl rfl) ?_
            refine al_y rfl rfl (y_add rfl rfl rfl ⟨(by omega), (by omega)⟩) ?_
            refine al_y rfl rfl (y_assignV rfl rfl) ?_
            refine al_nil ?_
            exact ⟨⟨j + 1, by omega, by omega, fun b b1 b2 b3 => by
                              by_cases e : b = j
                              · subst e; exact hno
                              · exact hj.2.2 b b1 (by omega) b3⟩, by dsimp only; omega, weak_frM _ ⟨rfl, rfl, rfl, rfl, rfl, rfl, rfl, trivial⟩ (rfl)⟩
        · skip
          have hjge : m.st.length ≤ j := by simp at h1; omega
          refine ac_exit ?_
          refine qt_exit ?_
          refine qt_exit ?_
          refine qb_exit ?_
          refine qb_normal ?_
          refine qt_normal ?_
          refine ac_region ?_
          refine al_y rfl rfl (y_add rfl rfl rfl ⟨(by omega), (by omega)⟩) ?_
          refine al_y rfl rfl (y_moveV rfl rfl) ?_
          refine al_nil ?_
          exact ⟨⟨k + 1, by omega, fun a ha b hb hab => by
                              by_cases e : a = k
                              · subst e; exact hj.2.2 b hab (by omega) hb
                              · exact hk.2 a (by omega) b hb hab⟩, by dsimp only; omega, weak_frM _ ⟨rfl, rfl, rfl, rfl, trivial⟩ (rfl)⟩
    · skip
      have hge : m.st.length ≤ k := by simpa using h0
      refine ac_exit ?_
      refine qt_exit ?_
      refine qt_exit ?_
      refine qb_exit ?_
      refine qt_normal ?_
      refine ac_seq ?_
      refine ac_region ?_
      refine al_y rfl rfl (y_assignV rfl rfl) ?_
      refine al_y rfl rfl (y_assignV rfl rfl) ?_
      refine al_y rfl rfl (y_assignV rfl rfl) ?_
      refine al_nil ?_
      refine qt_normal ?_
      refine ac_ret ?_
      refine ⟨.inr rfl, ?_⟩
      rw [show clashOf m = none from firstPair_none (fun a ha b hb hab => hk.2 a (by omega) b hb hab)]
      exact ⟨_, rfl, ⟨_, _, rfl, AVle.refl _, ⟨_, _, rfl, AVle.refl _, ⟨_, _, rfl, AVle.refl _, rfl⟩⟩⟩⟩

def zChart : List AV := [.v (.int .i64 0), .v (.int .i64 0), .v (.int .i64 0), .v (.slice none 0 0), .v (.int .i64 0), .v (.int .i64 0)]

/-- chart.look -/
theorem f100 (m : Mp) : ACall Tryz.prog G 100 [.agg (eMp m)] (.agg (eChart m)) := by
  refine acall_of Tryz.func100 rfl (by kernel_rfl) rfl ?_
  refine ac_seq ?_
  refine ac_region ?_
  refine al_y rfl rfl (y_box rfl (cE_agg rfl)) ?_
  refine al_m rfl (m_alloc rfl rfl zv101 rfl rfl) ?_
  refine al_nil ?_
  refine qt_normal ?_
  refine ac_seq ?_
  refine ac_region ?_
  refine al_y rfl rfl (y_loadN rfl rfl ty24 (by exact Nat.le_of_ble_eq_true rfl)) ?_
  refine al_y rfl rfl (y_fieldAddr rfl rfl fld24_0) ?_
  refine al_y rfl rfl (y_load1 rfl rfl rfl ty3) ?_
  refine al_y rfl rfl (y_fieldAddr rfl rfl fld24_1) ?_
  refine al_y rfl rfl (y_load1 rfl rfl rfl ty3) ?_
  refine al_y rfl rfl (y_build (cs := [_, _]) rfl st99 rfl ⟨_, _, rfl, (cE_v rfl), ⟨_, _, rfl, (cE_v rfl), rfl⟩⟩ (by rfl) (by simp [ofV])) ?_
  refine al_y rfl rfl (y_build (cs := [_, _, _, _, _, _]) rfl st101 rfl ⟨_, _, rfl, (cE_agg rfl), ⟨_, _, rfl, (cE_agg rfl), rfl⟩⟩ (by rfl) (by simp [ofV])) ?_
  refine al_m rfl (m_store rfl rfl rfl rfl rfl rfl (cE_agg rfl) ty101 (by rfl) (by exact Nat.le_of_ble_eq_true rfl)) ?_
  refine al_nil ?_
  refine qt_normal ?_
  refine ac_ret ?_
  exact ⟨.inr rfl, ret_one rfl (res_cell rfl rfl rfl rfl ty101 rfl ⟨_, _, rfl, AVle.refl _, ⟨_, _, rfl, AVle.refl _, ⟨_, _, rfl, AVle.refl _, ⟨_, _, rfl, AVle.refl _, ⟨_, _, rfl, AVle.refl _, ⟨_, _, rfl, AVle.refl _, rfl⟩⟩⟩⟩⟩⟩)⟩

/-- chart.always -/
theorem f63 (m : Mp) : ACall Tryz.prog G 63 [.agg (eChart m)] (.v (.bool true)) := by
  refine acall_of Tryz.func63 rfl (by kernel_rfl) rfl ?_
  refine ac_seq ?_
  refine ac_region ?_
  refine al_y rfl rfl (y_box rfl (cE_agg rfl)) ?_
  refine al_y rfl rfl (y_assignV rfl rfl) ?_
  refine al_nil ?_
  refine qt_normal ?_
  refine ac_seq ?_
  refine ac_region ?_
  refine al_y rfl rfl (y_assignV rfl rfl) ?_
  refine al_nil ?_
  refine qt_normal ?_
  refine ac_ret ?_
  exact ⟨.inr rfl, AVle.refl _⟩

/-- chart.possible -/
theorem f62_bad (m : Mp) (h : mapB m = false) (f : FuncId) (fs cs : List AV) : ACall Tryz.prog G 62 [.agg (eMp m), .fn f fs cs] (.tup [.agg zChart, ei 2]) := by
  refine acall_of Tryz.func62 rfl (by kernel_rfl) rfl ?_
  refine ac_seq ?_
  refine ac_region ?_
  refine al_y rfl rfl (y_box rfl (cE_agg rfl)) ?_
  refine al_m rfl (m_alloc rfl rfl zv101 rfl rfl) ?_
  refine al_y rfl rfl (y_assignV rfl rfl) ?_
  refine al_nil ?_
  refine qt_normal ?_
  refine ac_seq ?_
  refine ac_seq ?_
  refine ac_region ?_
  refine al_y rfl rfl (y_loadN rfl rfl ty24 (by exact Nat.le_of_ble_eq_true rfl)) ?_
  refine al_y rfl rfl (y_callF (av := [_]) rfl ⟨rfl, trivial⟩ (f99 m)) ?_
  refine al_y rfl rfl (y_not rfl rfl) ?_
  refine al_nil ?_
  refine qt_normal ?_
  refine ac_cond rfl (fun h0 => ?_) (fun h0 => ?_)
  · skip
    refine ac_seq ?_
    refine ac_region ?_
    refine al_y rfl rfl (y_build (cs := [_, _, _, _, _, _]) rfl st101 rfl rfl (by rfl) (by simp [ofV])) ?_
    refine al_m rfl (m_store rfl rfl rfl rfl rfl rfl (cE_agg rfl) ty101 (by rfl) (by exact Nat.le_of_ble_eq_true rfl)) ?_
    refine al_y rfl rfl (y_assignV rfl rfl) ?_
    refine al_nil ?_
    refine qt_normal ?_
    refine ac_ret ?_
    refine qt_ret ?_
    exact ⟨.inr rfl, ⟨_, rfl, ⟨_, _, rfl, (res_cell rfl rfl rfl rfl ty101 rfl ⟨_, _, rfl, AVle.refl _, ⟨_, _, rfl, AVle.refl _, ⟨_, _, rfl, AVle.refl _, ⟨_, _, rfl, AVle.refl _, ⟨_, _, rfl, AVle.refl _, ⟨_, _, rfl, AVle.refl _, rfl⟩⟩⟩⟩⟩⟩), ⟨_, _, rfl, AVle.refl _, rfl⟩⟩⟩⟩
  · skip
    exfalso; simp [h] at h0

/-- chart.possible -/
theorem f62_clash (m : Mp) (hm : okM m) (f : FuncId) (fs cs : List AV) (hf : ACall Tryz.prog G f (fs ++ [.agg (eChart m)] ++ cs) (.v (.bool true))) (p : Nat × Nat) (hc : clashOf m = some p) : ACall Tryz.prog G 62 [.agg (eMp m), .fn f fs cs] (.tup [.agg zChart, ei 7]) := by
  have hmb := (okM_iff m).2 hm
  refine acall_of Tryz.func62 rfl (by kernel_rfl) rfl ?_
  refine ac_seq ?_
  refine ac_region ?_
  refine al_y rfl rfl (y_box rfl (cE_agg rfl)) ?_
  refine al_m rfl (m_alloc rfl rfl zv101 rfl rfl) ?_
  refine al_y rfl rfl (y_assignV rfl rfl) ?_
  refine al_nil ?_
  refine qt_normal ?_
  refine ac_seq ?_
  refine ac_seq ?_
  refine ac_region ?_
  refine al_y rfl rfl (y_loadN rfl rfl ty24 (by exact Nat.le_of_ble_eq_true rfl)) ?_
  refine al_y rfl rfl (y_callF (av := [_]) rfl ⟨rfl, trivial⟩ (f99 m)) ?_
  refine al_y rfl rfl (y_not rfl rfl) ?_
  refine al_nil ?_
  refine qt_normal ?_
  refine ac_cond rfl (fun h0 => ?_) (fun h0 => ?_)
  · skip
    exfalso; simp [hmb] at h0
  · skip
    refine ac_skip ?_
    refine qt_normal ?_
    refine ac_seq ?_
    refine ac_region ?_
    refine al_y rfl rfl (y_loadN rfl rfl ty24 (by exact Nat.le_of_ble_eq_true rfl)) ?_
    refine al_y rfl rfl (y_callF (av := [_]) rfl ⟨rfl, trivial⟩ (f100 m)) ?_
    refine al_pair  rfl rfl rfl rfl rfl rfl rfl zv101 ty101 rfl (by rfl) (cE_agg rfl) rfl ?_
    refine al_nil ?_
    refine qt_normal ?_
    refine ac_seq ?_
    refine ac_seq ?_
    refine ac_region ?_
    refine al_y rfl rfl (y_moveP rfl rfl) ?_
    refine al_y rfl rfl (y_loadN rfl rfl ty101 (by exact Nat.le_of_ble_eq_true rfl)) ?_
    refine al_y rfl rfl (y_callV (av := [_]) rfl rfl ⟨rfl, trivial⟩ hf) ?_
    refine al_y rfl rfl (y_not rfl rfl) ?_
    refine al_nil ?_
    refine qt_normal ?_
    refine ac_cond rfl (fun h1 => ?_) (fun h1 => ?_)
    · skip
      exfalso; simp at h1
    · skip
      refine ac_skip ?_
      refine qt_normal ?_
      refine ac_seq ?_
      refine ac_seq ?_
      refine ac_region ?_
      refine al_y rfl rfl (y_loadN rfl rfl ty101 (by exact Nat.le_of_ble_eq_true rfl)) ?_
      refine al_y rfl rfl (y_callF (av := [_]) rfl ⟨rfl, trivial⟩ (r := .tup [ei p.1, ei p.2, .v (.bool true)]) (by have h := f101 (G := G) m hm; rw [hc] at h; exact h)) ?_
      refine al_y rfl rfl (y_moveP rfl rfl) ?_
      refine al_y rfl rfl (y_extract rfl rfl rfl) ?_
      refine al_y rfl rfl (y_extract rfl rfl rfl) ?_
      refine al_y rfl rfl (y_extract rfl rfl rfl) ?_
      refine al_y rfl rfl (y_assignV rfl rfl) ?_
      refine al_y rfl rfl (y_assignV rfl rfl) ?_
      refine al_y rfl rfl (y_assignV rfl rfl) ?_
      refine al_nil ?_
      refine qt_normal ?_
      refine ac_seq ?_
      refine ac_region ?_
      refine al_y rfl rfl (y_moveV rfl rfl) ?_
      refine al_nil ?_
      refine qt_normal ?_
      refine ac_cond rfl (fun h2 => ?_) (fun h2 => ?_)
      · skip
        refine ac_seq ?_
        refine ac_region ?_
        refine al_y rfl rfl (y_build (cs := [_, _, _, _, _, _]) rfl st101 rfl rfl (by rfl) (by simp [ofV])) ?_
        refine al_m rfl (m_store rfl rfl rfl rfl rfl rfl (cE_agg rfl) ty101 (by rfl) (by exact Nat.le_of_ble_eq_true rfl)) ?_
        refine al_y rfl rfl (y_assignV rfl rfl) ?_
        refine al_nil ?_
        refine qt_normal ?_
        refine ac_ret ?_
        refine qt_ret ?_
        exact ⟨.inr rfl, ⟨_, rfl, ⟨_, _, rfl, (res_cell rfl rfl rfl rfl ty101 rfl ⟨_, _, rfl, AVle.refl _, ⟨_, _, rfl, AVle.refl _, ⟨_, _, rfl, AVle.refl _, ⟨_, _, rfl, AVle.refl _, ⟨_, _, rfl, AVle.refl _, ⟨_, _, rfl, AVle.refl _, rfl⟩⟩⟩⟩⟩⟩), ⟨_, _, rfl, AVle.refl _, rfl⟩⟩⟩⟩
      · skip
        exfalso; simp at h2

/-- chart.possible -/
theorem f62_ok (m : Mp) (hm : okM m) (f : FuncId) (fs cs : List AV) (hf : ACall Tryz.prog G f (fs ++ [.agg (eChart m)] ++ cs) (.v (.bool true))) (hc : clashOf m = none) : ACall Tryz.prog G 62 [.agg (eMp m), .fn f fs cs] (.tup [.agg (eChart m), ei 0]) := by
  have hmb := (okM_iff m).2 hm
  refine acall_of Tryz.func62 rfl (by kernel_rfl) rfl ?_
  refine ac_seq ?_
  refine ac_region ?_
  refine al_y rfl rfl (y_box rfl (cE_agg rfl)) ?_
  refine al_m rfl (m_alloc rfl rfl zv101 rfl rfl) ?_
  refine al_y rfl rfl (y_assignV rfl rfl) ?_
  refine al_nil ?_
  refine qt_normal ?_
  refine ac_seq ?_
  refine ac_seq ?_
  refine ac_region ?_
  refine al_y rfl rfl (y_loadN rfl rfl ty24 (by exact Nat.le_of_ble_eq_true rfl)) ?_
  refine al_y rfl rfl (y_callF (av := [_]) rfl ⟨rfl, trivial⟩ (f99 m)) ?_
  refine al_y rfl rfl (y_not rfl rfl) ?_
  refine al_nil ?_
  refine qt_normal ?_
  refine ac_cond rfl (fun h0 => ?_) (fun h0 => ?_)
  · skip
    exfalso; simp [hmb] at h0
  · skip
    refine ac_skip ?_
    refine qt_normal ?_
    refine ac_seq ?_
    refine ac_region ?_
    refine al_y rfl rfl (y_loadN rfl rfl ty24 (by exact Nat.le_of_ble_eq_true rfl)) ?_
    refine al_y rfl rfl (y_callF (av := [_]) rfl ⟨rfl, trivial⟩ (f100 m)) ?_
    refine al_pair  rfl rfl rfl rfl rfl rfl rfl zv101 ty101 rfl (by rfl) (cE_agg rfl) rfl ?_
    refine al_nil ?_
    refine qt_normal ?_
    refine ac_seq ?_
    refine ac_seq ?_
    refine ac_region ?_
    refine al_y rfl rfl (y_moveP rfl rfl) ?_
    refine al_y rfl rfl (y_loadN rfl rfl ty101 (by exact Nat.le_of_ble_eq_true rfl)) ?_
    refine al_y rfl rfl (y_callV (av := [_]) rfl rfl ⟨rfl, trivial⟩ hf) ?_
    refine al_y rfl rfl (y_not rfl rfl) ?_
    refine al_nil ?_
    refine qt_normal ?_
    refine ac_cond rfl (fun h1 => ?_) (fun h1 => ?_)
    · skip
      exfalso; simp at h1
    · skip
      refine ac_skip ?_
      refine qt_normal ?_
      refine ac_seq ?_
      refine ac_seq ?_
      refine ac_region ?_
      refine al_y rfl rfl (y_loadN rfl rfl ty101 (by exact Nat.le_of_ble_eq_true rfl)) ?_
      refine al_y rfl rfl (y_callF (av := [_]) rfl ⟨rfl, trivial⟩ (r := .tup [ei 0, ei 0, .v (.bool false)]) (by have h := f101 (G := G) m hm; rw [hc] at h; exact h)) ?_
      refine al_y rfl rfl (y_moveP rfl rfl) ?_
      refine al_y rfl rfl (y_extract rfl rfl rfl) ?_
      refine al_y rfl rfl (y_extract rfl rfl rfl) ?_
      refine al_y rfl rfl (y_extract rfl rfl rfl) ?_
      refine al_y rfl rfl (y_assignV rfl rfl) ?_
      refine al_y rfl rfl (y_assignV rfl rfl) ?_
      refine al_y rfl rfl (y_assignV rfl rfl) ?_
      refine al_nil ?_
      refine qt_normal ?_
      refine ac_seq ?_
      refine ac_region ?_
      refine al_y rfl rfl (y_moveV rfl rfl) ?_
      refine al_nil ?_
      refine qt_normal ?_
      refine ac_cond rfl (fun h2 => ?_) (fun h2 => ?_)
      · skip
        exfalso; simp at h2
      · skip
        refine ac_skip ?_
        refine qt_normal ?_
        refine ac_seq ?_
        refine ac_region ?_
        refine al_y rfl rfl (y_loadN rfl rfl ty101 (by exact Nat.le_of_ble_eq_true rfl)) ?_
        refine al_m rfl (m_store rfl rfl rfl rfl rfl rfl (cE_agg rfl) ty101 (by rfl) (by exact Nat.le_of_ble_eq_true rfl)) ?_
        refine al_y rfl rfl (y_assignV rfl rfl) ?_
        refine al_nil ?_
        refine qt_normal ?_
        refine ac_ret ?_
        exact ⟨.inr rfl, ⟨_, rfl, ⟨_, _, rfl, (res_cell rfl rfl rfl rfl ty101 rfl ⟨_, _, rfl, AVle.refl _, ⟨_, _, rfl, AVle.refl _, ⟨_, _, rfl, AVle.refl _, ⟨_, _, rfl, AVle.refl _, ⟨_, _, rfl, AVle.refl _, ⟨_, _, rfl, AVle.refl _, rfl⟩⟩⟩⟩⟩⟩), ⟨_, _, rfl, AVle.refl _, rfl⟩⟩⟩⟩
end Go.Av
end
