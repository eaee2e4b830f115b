/- Both bounds of all points. · Maps that are as defined. -/
import Derived.Test.YtdjncbjfejdamaaGreatDoorChA
import Derived.Lib.Hide
set_option linter.unusedVariables false
set_option linter.unusedSimpArgs false
section
namespace Go.Av
open Go.Proofs
set_option maxRecDepth 100000
set_option maxHeartbeats 1000000
set_option linter.unusedSimpArgs false
variable {G : Glob}

def npt (m : Mp) : Nat := (m.wide * m.rows).toNat
def los (m : Mp) : List Int := (List.range (npt m)).map fun p : Nat => loOf m.wide m.slope (p : Int) m.st
def his (m : Mp) : List Int := (List.range (npt m)).map fun p : Nat => hiOf m.wide m.slope (p : Int) m.st
theorem range_snoc {α : Type} (f : Nat → α) (k : Nat) : (List.range k).map f ++ [f k] = (List.range (k + 1)).map f := by simp [List.range_succ]
theorem npt_bd {m : Mp} (hm : okM m) : (npt m : Int) = m.wide * m.rows ∧ 1 ≤ npt m ∧ npt m ≤ 30 := by
  obtain ⟨m1, m2, m3, m4, _⟩ := hm
  have := area m1 m2 m3 m4
  unfold npt; omega
abbrev nilE : EV := .pub (.v (.slice none 0 0))
def loE (m : Mp) (p : Nat) : List EV := [I (loOf m.wide m.slope (p : Int) m.st)]
def hiE (m : Mp) (p : Nat) : List EV := [I (hiOf m.wide m.slope (p : Int) m.st)]
theorem len_map1 {α : Type} {l : List α} {f : α → List EV} (h : ∀ a, (f a).length = 1) : ∀ r ∈ l.map f, r.length = 1 := fun r hr => by
  obtain ⟨a, _, rfl⟩ := List.mem_map.1 hr; exact h a

/-- chart.chart.ends -/
theorem f64 (m : Mp) (hm : okM m) : ACall Tryz.prog G 64 [.agg (eChart m)] (.agg [eInts (los m), eInts (his m)]) := by
  have hn := npt_bd hm
  have ho := hm
  obtain ⟨m1, m2, m3, m4, m5, m6, m7, m8⟩ := ho
  refine acall_of Tryz.func64 rfl (by kernel_rfl) rfl ?_
  refine ac_seq ?_
  refine ac_region ?_
  refine al_y rfl rfl (y_box rfl (cE_agg rfl)) ?_
  refine al_m rfl (m_alloc rfl rfl zv105 rfl rfl) ?_
  refine al_nil ?_
  refine qt_normal ?_
  refine ac_seq ?_
  refine ac_region ?_
  refine al_m rfl (m_alloc rfl rfl zv105 rfl rfl) ?_
  refine al_nil ?_
  refine qt_normal ?_
  refine ac_seq ?_
  refine ac_seq ?_
  refine ac_region ?_
  refine al_y rfl rfl (y_loadN rfl rfl ty101 (by exact Nat.le_of_ble_eq_true rfl)) ?_
  refine al_y rfl rfl (y_makeFunc (fs := [_]) (cs := []) rfl rfl rfl) ?_
  refine al_y rfl rfl (y_loadN rfl rfl ty101 (by exact Nat.le_of_ble_eq_true rfl)) ?_
  refine al_y rfl rfl (y_makeFunc (fs := [_]) (cs := []) rfl rfl rfl) ?_
  refine al_y rfl rfl (y_buildA (cs := [_, _]) rfl az162 rfl ⟨_, _, rfl, (cE_fn rfl), ⟨_, _, rfl, (cE_fn rfl), rfl⟩⟩ (by rfl) (by simp [ofV])) ?_
  refine al_y rfl rfl (y_moveV rfl rfl) ?_
  refine al_nil ?_
  refine qt_normal ?_
  refine ac_block ?_
  refine ac_loop (ι := { k : Nat // k < 3 }) (fun k => match k.1 with | 0 => ⟨Tryz.f64.ntmps, frL [(1, .pub (.ptr (eChart m))), (2, .pp 0 1 0 0), (3, .pp 1 1 0 0), (12, .pub (.agg [.fn 114 [.agg (eChart m)] [], .fn 115 [.agg (eChart m)] []])), (13, I 0)], [.row [[nilE, nilE]], .row [[nilE, nilE]]]⟩ | 1 => ⟨Tryz.f64.ntmps, frL [(1, .pub (.ptr (eChart m))), (2, .pp 0 1 0 0), (3, .pp 1 1 0 0), (12, .pub (.agg [.fn 114 [.agg (eChart m)] [], .fn 115 [.agg (eChart m)] []])), (13, I 1)], [.row [[nilE, nilE]], .row [[.psl 2 (npt m), nilE]], .row ((List.range (npt m)).map (loE m))]⟩ | _ => ⟨Tryz.f64.ntmps, frL [(1, .pub (.ptr (eChart m))), (2, .pp 0 1 0 0), (3, .pp 1 1 0 0), (12, .pub (.agg [.fn 114 [.agg (eChart m)] [], .fn 115 [.agg (eChart m)] []])), (13, I 2)], [.row [[nilE, nilE]], .row [[.psl 2 (npt m), .psl 3 (npt m)]], .row ((List.range (npt m)).map (loE m)), .row ((List.range (npt m)).map (hiE m))]⟩) (fun k => 3 - k.1) (⟨0, by omega⟩) ?_ ?_
  · exact weak_frM _ ⟨rfl, rfl, rfl, rfl, rfl, trivial⟩ (rfl)
  · rintro ⟨k, hk⟩
    have hk3 : k = 0 ∨ k = 1 ∨ k = 2 := by omega
    rcases hk3 with rfl | rfl | rfl
    · dsimp only
      refine ac_seq ?_
      refine ac_region ?_
      refine al_y rfl rfl (y_lss rfl rfl rfl) ?_
      refine al_nil ?_
      refine qt_normal ?_
      refine ac_seq ?_
      refine ac_cond rfl (fun h0 => ?_) (fun h0 => ?_)
      · skip
        refine ac_skip ?_
        refine qt_normal ?_
        refine ac_seq ?_
        refine ac_block ?_
        refine ac_seq ?_
        refine ac_region ?_
        refine al_y rfl rfl (y_moveV rfl rfl) ?_
        refine al_y rfl rfl (y_index_arr rfl rfl rfl arr162 (fun e he => by rw [Tryz.underlying162] at he; cases he; exact ty161) (by omega) (by omega) rfl) ?_
        refine al_y rfl rfl (y_assignV rfl rfl) ?_
        refine al_y rfl rfl (y_assignP rfl rfl) ?_
        refine al_nil ?_
        refine qt_normal ?_
        refine ac_seq ?_
        refine ac_region ?_
        refine al_y rfl rfl (y_fieldAddr rfl rfl fld101_0) ?_
        refine al_y rfl rfl (y_fieldAddr rfl rfl fld24_0) ?_
        refine al_y rfl rfl (y_load1 rfl rfl rfl ty3) ?_
        refine al_y rfl rfl (y_fieldAddr rfl rfl fld101_0) ?_
        refine al_y rfl rfl (y_fieldAddr rfl rfl fld24_1) ?_
        refine al_y rfl rfl (y_load1 rfl rfl rfl ty3) ?_
        refine al_y rfl rfl (y_mul rfl rfl rfl ⟨(by omega), (by omega)⟩) ?_
        refine al_y rfl rfl (y_moveV rfl rfl) ?_
        refine al_nil ?_
        refine qt_normal ?_
        refine ac_block ?_
        refine ac_weak (weak_nilc (k := 1) (i := 0) (j := 0) rfl rfl rfl) ?_
        refine ac_loop (ι := { k : Nat // k ≤ npt m }) (fun k => ⟨Tryz.f64.ntmps, frL [(1, .pub (.ptr (eChart m))), (2, .pp 0 1 0 0), (3, .pp 1 1 0 0), (12, .pub (.agg [.fn 114 [.agg (eChart m)] [], .fn 115 [.agg (eChart m)] []])), (13, I 0), (4, I 0), (5, .pub (.fn 114 [.agg (eChart m)] [])), (23, I (m.wide * m.rows)), (24, I (k.1 : Int))], [.row [[nilE, nilE]], .row [[.psl 2 k.1, nilE]], .row ((List.range k.1).map (loE m))]⟩) (fun k => npt m - k.1) (⟨0, by omega⟩) ?_ ?_
        · exact weak_frM _ ⟨rfl, rfl, rfl, rfl, rfl, rfl, rfl, rfl, rfl, trivial⟩ (rfl)
        · rintro ⟨k, hk⟩
          dsimp only
          refine ac_seq ?_
          refine ac_region ?_
          refine al_y rfl rfl (y_lss rfl rfl rfl) ?_
          refine al_nil ?_
          refine qt_normal ?_
          refine ac_seq ?_
          refine ac_cond rfl (fun h1 => ?_) (fun h1 => ?_)
          · skip
            have hlt : k < npt m := by have := of_decide_eq_true h1; omega
            refine ac_skip ?_
            refine qt_normal ?_
            refine ac_seq ?_
            refine ac_block ?_
            refine ac_seq ?_
            refine ac_region ?_
            refine al_y rfl rfl (y_moveV rfl rfl) ?_
            refine al_y rfl rfl (y_assignV rfl rfl) ?_
            refine al_nil ?_
            refine qt_normal ?_
            refine ac_seq ?_
            refine ac_region ?_
            refine al_y rfl rfl (y_moveP rfl rfl) ?_
            refine al_y rfl rfl (y_moveV rfl rfl) ?_
            refine al_y rfl rfl (y_callV (av := [_]) rfl rfl ⟨rfl, trivial⟩ (f114 m (k : Int) hm (by omega))) ?_
            refine al_y rfl rfl (y_assignV rfl rfl) ?_
            refine al_nil ?_
            refine qt_normal ?_
            refine ac_region ?_
            refine al_y rfl rfl (y_moveV rfl rfl) ?_
            refine al_y rfl rfl (y_moveV rfl rfl) ?_
            refine al_y rfl rfl (y_indexAddr_arrp rfl rfl rfl rfl rfl arr105 (by omega) (by omega)) ?_
            refine al_y rfl rfl (y_load_pp1 rfl rfl rfl rfl rfl rfl ty27) ?_
            refine al_y rfl rfl (y_moveV rfl rfl) ?_
            refine al_y rfl rfl (y_buildSlice (size := 1) (rows := [[_]]) rfl Tryz.underlying27 ti3 rfl (by decide) rfl (by decide) ⟨_, _, rfl, (cE_v rfl), rfl⟩ (by rfl) (by simp [ofV]) rfl (by simp)) ?_
            refine al_m rfl (m_append rfl rfl rfl rfl (by simp) rfl el27 (len_map1 fun _ => rfl) (by simp) (by simp; omega) (by unfold maxLen; simp; omega)) ?_
            refine al_y rfl rfl (y_indexAddr_arrp rfl rfl rfl rfl rfl arr105 (by omega) (by omega)) ?_
            refine al_m rfl (m_store rfl rfl rfl rfl rfl rfl (cE_psl rfl rfl (by simp)) ty27 (by rfl) (by exact Nat.le_of_ble_eq_true rfl)) ?_
            refine al_nil ?_
            refine qb_normal ?_
            refine qt_normal ?_
            refine ac_region ?_
            refine al_y rfl rfl (y_add rfl rfl rfl ⟨(by omega), (by omega)⟩) ?_
            refine al_y rfl rfl (y_moveV rfl rfl) ?_
            refine al_nil ?_
            exact ⟨⟨k + 1, by omega⟩, by dsimp only; omega, weak_frM _ ⟨rfl, rfl, rfl, rfl, rfl, rfl, rfl, rfl, rfl, trivial⟩ (congrArg (fun z => [PO.row [[nilE, nilE]], PO.row [[.psl 2 (k + 1), nilE]], PO.row z]) (range_snoc (loE m) k))⟩
          · skip
            have hge : npt m ≤ k := by have := of_decide_eq_false h1; omega
            have hk2 : k = npt m := by omega
            subst hk2
            refine ac_exit ?_
            refine qt_exit ?_
            refine qt_exit ?_
            refine qb_exit ?_
            refine qb_normal ?_
            refine qt_normal ?_
            refine ac_region ?_
            refine al_y rfl rfl (y_add rfl rfl rfl ⟨(by omega), (by omega)⟩) ?_
            refine al_y rfl rfl (y_moveV rfl rfl) ?_
            refine al_nil ?_
            exact ⟨⟨1, by omega⟩, by dsimp only; omega, weak_frM (mem' := [.row [[nilE, nilE]], .row [[.psl 2 (npt m), nilE]], .row ((List.range (npt m)).map (loE m))]) [(1, .pub (.ptr (eChart m))), (2, .pp 0 1 0 0), (3, .pp 1 1 0 0), (12, .pub (.agg [.fn 114 [.agg (eChart m)] [], .fn 115 [.agg (eChart m)] []])), (13, I 1)] ⟨rfl, rfl, rfl, rfl, rfl, trivial⟩ (rfl)⟩
      · skip
        exfalso; simp at h0
    · dsimp only
      refine ac_seq ?_
      refine ac_region ?_
      refine al_y rfl rfl (y_lss rfl rfl rfl) ?_
      refine al_nil ?_
      refine qt_normal ?_
      refine ac_seq ?_
      refine ac_cond rfl (fun h0 => ?_) (fun h0 => ?_)
      · skip
        refine ac_skip ?_
        refine qt_normal ?_
        refine ac_seq ?_
        refine ac_block ?_
        refine ac_seq ?_
        refine ac_region ?_
        refine al_y rfl rfl (y_moveV rfl rfl) ?_
        refine al_y rfl rfl (y_index_arr rfl rfl rfl arr162 (fun e he => by rw [Tryz.underlying162] at he; cases he; exact ty161) (by omega) (by omega) rfl) ?_
        refine al_y rfl rfl (y_assignV rfl rfl) ?_
        refine al_y rfl rfl (y_assignP rfl rfl) ?_
        refine al_nil ?_
        refine qt_normal ?_
        refine ac_seq ?_
        refine ac_region ?_
        refine al_y rfl rfl (y_fieldAddr rfl rfl fld101_0) ?_
        refine al_y rfl rfl (y_fieldAddr rfl rfl fld24_0) ?_
        refine al_y rfl rfl (y_load1 rfl rfl rfl ty3) ?_
        refine al_y rfl rfl (y_fieldAddr rfl rfl fld101_0) ?_
        refine al_y rfl rfl (y_fieldAddr rfl rfl fld24_1) ?_
        refine al_y rfl rfl (y_load1 rfl rfl rfl ty3) ?_
        refine al_y rfl rfl (y_mul rfl rfl rfl ⟨(by omega), (by omega)⟩) ?_
        refine al_y rfl rfl (y_moveV rfl rfl) ?_
        refine al_nil ?_
        refine qt_normal ?_
        refine ac_block ?_
        refine ac_weak (weak_nilc (k := 1) (i := 0) (j := 1) rfl rfl rfl) ?_
        refine ac_loop (ι := { k : Nat // k ≤ npt m }) (fun k => ⟨Tryz.f64.ntmps, frL [(1, .pub (.ptr (eChart m))), (2, .pp 0 1 0 0), (3, .pp 1 1 0 0), (12, .pub (.agg [.fn 114 [.agg (eChart m)] [], .fn 115 [.agg (eChart m)] []])), (13, I 1), (4, I 1), (5, .pub (.fn 115 [.agg (eChart m)] [])), (23, I (m.wide * m.rows)), (24, I (k.1 : Int))], [.row [[nilE, nilE]], .row [[.psl 2 (npt m), .psl 3 k.1]], .row ((List.range (npt m)).map (loE m)), .row ((List.range k.1).map (hiE m))]⟩) (fun k => npt m - k.1) (⟨0, by omega⟩) ?_ ?_
        · exact weak_frM _ ⟨rfl, rfl, rfl, rfl, rfl, rfl, rfl, rfl, rfl, trivial⟩ (rfl)
        · rintro ⟨k, hk⟩
          dsimp only
          refine ac_seq ?_
          refine ac_region ?_
          refine al_y rfl rfl (y_lss rfl rfl rfl) ?_
          refine al_nil ?_
          refine qt_normal ?_
          refine ac_seq ?_
          refine ac_cond rfl (fun h1 => ?_) (fun h1 => ?_)
          · skip
            have hlt : k < npt m := by have := of_decide_eq_true h1; omega
            refine ac_skip ?_
            refine qt_normal ?_
            refine ac_seq ?_
            refine ac_block ?_
            refine ac_seq ?_
            refine ac_region ?_
            refine al_y rfl rfl (y_moveV rfl rfl) ?_
            refine al_y rfl rfl (y_assignV rfl rfl) ?_
            refine al_nil ?_
            refine qt_normal ?_
            refine ac_seq ?_
            refine ac_region ?_
            refine al_y rfl rfl (y_moveP rfl rfl) ?_
            refine al_y rfl rfl (y_moveV rfl rfl) ?_
            refine al_y rfl rfl (y_callV (av := [_]) rfl rfl ⟨rfl, trivial⟩ (f115 m (k : Int) hm (by omega))) ?_
            refine al_y rfl rfl (y_assignV rfl rfl) ?_
            refine al_nil ?_
            refine qt_normal ?_
            refine ac_region ?_
            refine al_y rfl rfl (y_moveV rfl rfl) ?_
            refine al_y rfl rfl (y_moveV rfl rfl) ?_
            refine al_y rfl rfl (y_indexAddr_arrp rfl rfl rfl rfl rfl arr105 (by omega) (by omega)) ?_
            refine al_y rfl rfl (y_load_pp1 rfl rfl rfl rfl rfl rfl ty27) ?_
            refine al_y rfl rfl (y_moveV rfl rfl) ?_
            refine al_y rfl rfl (y_buildSlice (size := 1) (rows := [[_]]) rfl Tryz.underlying27 ti3 rfl (by decide) rfl (by decide) ⟨_, _, rfl, (cE_v rfl), rfl⟩ (by rfl) (by simp [ofV]) rfl (by simp)) ?_
            refine al_m rfl (m_append rfl rfl rfl rfl (by simp) rfl el27 (len_map1 fun _ => rfl) (by simp) (by simp; omega) (by unfold maxLen; simp; omega)) ?_
            refine al_y rfl rfl (y_indexAddr_arrp rfl rfl rfl rfl rfl arr105 (by omega) (by omega)) ?_
            refine al_m rfl (m_store rfl rfl rfl rfl rfl rfl (cE_psl rfl rfl (by simp)) ty27 (by rfl) (by exact Nat.le_of_ble_eq_true rfl)) ?_
            refine al_nil ?_
            refine qb_normal ?_
            refine qt_normal ?_
            refine ac_region ?_
            refine al_y rfl rfl (y_add rfl rfl rfl ⟨(by omega), (by omega)⟩) ?_
            refine al_y rfl rfl (y_moveV rfl rfl) ?_
            refine al_nil ?_
            exact ⟨⟨k + 1, by omega⟩, by dsimp only; omega, weak_frM _ ⟨rfl, rfl, rfl, rfl, rfl, rfl, rfl, rfl, rfl, trivial⟩ (congrArg (fun z => [PO.row [[nilE, nilE]], PO.row [[.psl 2 (npt m), .psl 3 (k + 1)]], PO.row ((List.range (npt m)).map (loE m)), PO.row z]) (range_snoc (hiE m) k))⟩
          · skip
            have hge : npt m ≤ k := by have := of_decide_eq_false h1; omega
            have hk2 : k = npt m := by omega
            subst hk2
            refine ac_exit ?_
            refine qt_exit ?_
            refine qt_exit ?_
            refine qb_exit ?_
            refine qb_normal ?_
            refine qt_normal ?_
            refine ac_region ?_
            refine al_y rfl rfl (y_add rfl rfl rfl ⟨(by omega), (by omega)⟩) ?_
            refine al_y rfl rfl (y_moveV rfl rfl) ?_
            refine al_nil ?_
            exact ⟨⟨2, by omega⟩, by dsimp only; omega, weak_frM (mem' := [.row [[nilE, nilE]], .row [[.psl 2 (npt m), .psl 3 (npt m)]], .row ((List.range (npt m)).map (loE m)), .row ((List.range (npt m)).map (hiE m))]) [(1, .pub (.ptr (eChart m))), (2, .pp 0 1 0 0), (3, .pp 1 1 0 0), (12, .pub (.agg [.fn 114 [.agg (eChart m)] [], .fn 115 [.agg (eChart m)] []])), (13, I 2)] ⟨rfl, rfl, rfl, rfl, rfl, trivial⟩ (rfl)⟩
      · skip
        exfalso; simp at h0
    · dsimp only
      refine ac_seq ?_
      refine ac_region ?_
      refine al_y rfl rfl (y_lss rfl rfl rfl) ?_
      refine al_nil ?_
      refine qt_normal ?_
      refine ac_seq ?_
      refine ac_cond rfl (fun h0 => ?_) (fun h0 => ?_)
      · skip
        exfalso; simp at h0
      · skip
        refine ac_exit ?_
        refine qt_exit ?_
        refine qt_exit ?_
        refine qb_exit ?_
        refine qt_normal ?_
        refine ac_seq ?_
        refine ac_region ?_
        refine al_y rfl rfl (y_load_ppN rfl rfl rfl rfl rfl (by exact Nat.le_of_ble_eq_true rfl) rfl ty105) ?_
        refine al_m rfl (m_store rfl rfl rfl rfl rfl rfl (cE_mix rfl) ty105 (by rfl) (by exact Nat.le_of_ble_eq_true rfl)) ?_
        refine al_nil ?_
        refine qt_normal ?_
        refine ac_ret ?_
        exact ⟨.inr rfl, ret_one rfl (res_cell rfl rfl rfl rfl ty105 rfl ⟨_, _, rfl, ⟨((los m).map fun n => [AV.v (.int .i64 n)]), by show some (PO.row _) = some (PO.row _); simp [los, loE, Function.comp_def], by simp [los], rfl⟩, ⟨_, _, rfl, ⟨((his m).map fun n => [AV.v (.int .i64 n)]), by show some (PO.row _) = some (PO.row _); simp [his, hiE, Function.comp_def], by simp [his], rfl⟩, rfl⟩⟩)⟩
end Go.Av
end

section
namespace Go.Av
open Go.Proofs
set_option maxRecDepth 100000
set_option maxHeartbeats 1000000
set_option linter.unusedSimpArgs false
variable {G : Glob}

def stnBad (m : Mp) (s : Stn) : Bool := !inB s.pt 0 (m.wide * m.rows - 1) || decide (s.lo < 0) || decide (s.hi < s.lo) || decide (99999 < s.hi)
theorem stnBad_not (m : Mp) (s : Stn) : stnBad m s = !stnB m s := by
  rw [Bool.eq_iff_iff]; simp [stnBad, stnB, inB]; omega
def zStn : Stn := ⟨0, 0, 0⟩
theorem any_take {α : Type} {p : α → Bool} {l : List α} {k : Nat} (h : (l.take k).any p = false) (hk : k < l.length) (hp : p l[k] = false) : (l.take (k + 1)).any p = false := by
  rw [List.take_succ_eq_append_getElem hk, List.any_append, h]; simp [hp]
theorem find_at {α : Type} {p : α → Bool} {l : List α} {k : Nat} (h : (l.take k).any p = false) (hk : k < l.length) (hp : p l[k] = true) : l.find? p = some l[k] := by
  have e : l = l.take k ++ l[k] :: l.drop (k + 1) := by rw [← List.drop_eq_getElem_cons hk, List.take_append_drop]
  have h1 : (l.take k).find? p = none := by rw [List.find?_eq_none]; intro x hx hp'; rw [List.any_eq_false] at h; exact h x hx hp'
  have h2 : (l.take k ++ l[k] :: l.drop (k + 1)).find? p = some l[k] := by rw [List.find?_append, h1]; simp only [Option.none_or, List.find?_cons, hp]
  rw [← e] at h2; exact h2
theorem any_at {α : Type} {p : α → Bool} {l : List α} {k : Nat} (hk : k < l.length) (hp : p l[k] = true) : l.any p = true := by
  rw [List.any_eq_true]; exact ⟨l[k], List.getElem_mem hk, hp⟩

/-- chart.valid$1 -/
theorem f137 (m : Mp) (s : Stn) (h1 : 1 ≤ m.wide ∧ m.wide ≤ 6) (h2 : 1 ≤ m.rows ∧ m.rows ≤ 5) : ACall Tryz.prog G 137 [.agg (eStn s), .ptr (eMp m)] (.v (.bool (stnBad m s))) := by
  have har := area h1.1 h1.2 h2.1 h2.2
  refine acall_of Tryz.func137 rfl (by kernel_rfl) rfl ?_
  refine ac_seq ?_
  refine ac_region ?_
  refine al_y rfl rfl (y_box rfl (cE_agg rfl)) ?_
  refine al_y rfl rfl (y_assignV rfl rfl) ?_
  refine al_nil ?_
  refine qt_normal ?_
  refine ac_seq ?_
  refine ac_region ?_
  refine al_y rfl rfl (y_fieldAddr rfl rfl fld78_0) ?_
  refine al_y rfl rfl (y_load1 rfl rfl rfl ty3) ?_
  refine al_y rfl rfl (y_fieldAddr rfl rfl fld24_0) ?_
  refine al_y rfl rfl (y_load1 rfl rfl rfl ty3) ?_
  refine al_y rfl rfl (y_fieldAddr rfl rfl fld24_1) ?_
  refine al_y rfl rfl (y_load1 rfl rfl rfl ty3) ?_
  refine al_y rfl rfl (y_mul rfl rfl rfl ⟨(by omega), (by omega)⟩) ?_
  refine al_y rfl rfl (y_sub rfl rfl rfl ⟨(by omega), (by omega)⟩) ?_
  refine al_y rfl rfl (y_callF (av := [_, _, _]) rfl ⟨rfl, rfl, rfl, trivial⟩ (f68 _ _ _)) ?_
  refine al_y rfl rfl (y_not rfl rfl) ?_
  refine al_y rfl rfl (y_moveV rfl rfl) ?_
  refine al_maybe rfl rfl rfl (fun hg => y_fieldAddr rfl rfl fld78_1) ?_
  refine al_maybe rfl rfl rfl (fun hg => y_fieldAddr rfl (if_pos hg) fld76_0) ?_
  refine al_maybe rfl rfl rfl (fun hg => y_load1 rfl (if_pos hg) rfl ty3) ?_
  refine al_maybe rfl rfl rfl (fun hg => y_lss rfl (if_pos hg) rfl) ?_
  refine al_y rfl rfl (y_or rfl rfl rfl rfl) ?_
  refine al_y rfl rfl (y_moveV rfl rfl) ?_
  refine al_maybe rfl rfl rfl (fun hg => y_fieldAddr rfl rfl fld78_1) ?_
  refine al_maybe rfl rfl rfl (fun hg => y_fieldAddr rfl (if_pos hg) fld76_0) ?_
  refine al_maybe rfl rfl rfl (fun hg => y_load1 rfl (if_pos hg) rfl ty3) ?_
  refine al_maybe rfl rfl rfl (fun hg => y_fieldAddr rfl rfl fld78_1) ?_
  refine al_maybe rfl rfl rfl (fun hg => y_fieldAddr rfl (if_pos hg) fld76_1) ?_
  refine al_maybe rfl rfl rfl (fun hg => y_load1 rfl (if_pos hg) rfl ty3) ?_
  refine al_maybe rfl rfl rfl (fun hg => y_gtr rfl (if_pos hg) (if_pos hg)) ?_
  refine al_y rfl rfl (y_or rfl rfl rfl rfl) ?_
  refine al_y rfl rfl (y_moveV rfl rfl) ?_
  refine al_maybe rfl rfl rfl (fun hg => y_fieldAddr rfl rfl fld78_1) ?_
  refine al_maybe rfl rfl rfl (fun hg => y_fieldAddr rfl (if_pos hg) fld76_1) ?_
  refine al_maybe rfl rfl rfl (fun hg => y_load1 rfl (if_pos hg) rfl ty3) ?_
  refine al_maybe rfl rfl rfl (fun hg => y_gtr rfl (if_pos hg) rfl) ?_
  refine al_y rfl rfl (y_or rfl rfl rfl rfl) ?_
  refine al_y rfl rfl (y_assignV rfl rfl) ?_
  refine al_nil ?_
  refine qt_normal ?_
  refine ac_ret ?_
  exact ⟨.inr rfl, AVle.refl _⟩

/-- chart.first[api.ChartStation] -/
theorem f103 (l : List Stn) (h : Stn → Bool) (f : FuncId) (fs cs : List AV) (hl : l.length ≤ 1000) (hf : ∀ s ∈ l, ACall Tryz.prog G f (fs ++ [.agg (eStn s)] ++ cs) (.v (.bool (h s)))) : ACall Tryz.prog G 103 [.sl (l.map eStn), .fn f fs cs] (.tup [.agg (eStn ((l.find? h).getD zStn)), .v (.bool (l.any h))]) := by
  have hF := Lib.hid hf
  clear hf
  refine acall_of Tryz.func103 rfl (by kernel_rfl) rfl ?_
  refine ac_seq ?_
  refine ac_region ?_
  refine al_m rfl (m_alloc rfl rfl zv78 rfl rfl) ?_
  refine al_y rfl rfl (y_assignV rfl rfl) ?_
  refine al_nil ?_
  refine qt_normal ?_
  refine ac_seq ?_
  refine ac_seq ?_
  refine ac_region ?_
  refine al_y rfl rfl (y_moveP rfl rfl) ?_
  refine al_y rfl rfl (y_len rfl rfl rfl Tryz.underlying22) ?_
  refine al_y rfl rfl (y_moveV rfl rfl) ?_
  refine al_nil ?_
  refine qt_normal ?_
  refine ac_block ?_
  refine ac_loop (ι := { k : Nat // k ≤ l.length ∧ (l.take k).any h = false }) (fun k => ⟨Tryz.f103.ntmps, frL [(1, .pub (.fn f fs cs)), (4, .pp 0 1 0 0), (9, .pub (.sl (l.map eStn))), (10, I (l.length : Int)), (11, I (k.1 : Int))], [.row [[I 0, I 0, I 0]]]⟩) (fun k => l.length - k.1) (⟨0, by simp⟩) ?_ ?_
  · exact weak_frM _ ⟨rfl, rfl, rfl, (congrArg (fun x : Nat => I (x : Int)) (List.length_map _)), rfl, trivial⟩ (rfl)
  · rintro ⟨k, hk⟩
    dsimp only
    refine ac_seq ?_
    refine ac_region ?_
    refine al_y rfl rfl (y_lss rfl rfl rfl) ?_
    refine al_nil ?_
    refine qt_normal ?_
    refine ac_seq ?_
    refine ac_cond rfl (fun h0 => ?_) (fun h0 => ?_)
    · skip
      have hlt : k < l.length := by simpa using h0
      refine ac_skip ?_
      refine qt_normal ?_
      refine ac_seq ?_
      refine ac_block ?_
      refine ac_seq ?_
      refine ac_region ?_
      refine al_y rfl rfl (y_indexAddr rfl rfl rfl slc22 (by omega) (row_at hlt) stn_len) ?_
      refine al_y rfl rfl (y_loadN rfl rfl ty78 (by exact Nat.le_of_ble_eq_true rfl)) ?_
      refine al_pair  rfl rfl rfl rfl rfl rfl rfl zv78 ty78 rfl (by rfl) (cE_agg rfl) rfl ?_
      refine al_nil ?_
      refine qt_normal ?_
      refine ac_seq ?_
      refine ac_region ?_
      refine al_y rfl rfl (y_moveP rfl rfl) ?_
      refine al_y rfl rfl (y_loadN rfl rfl ty78 (by exact Nat.le_of_ble_eq_true rfl)) ?_
      refine al_y rfl rfl (y_callV (av := [_]) rfl rfl ⟨rfl, trivial⟩ (hF.out _ (List.getElem_mem hlt))) ?_
      refine al_nil ?_
      refine qt_normal ?_
      refine ac_cond rfl (fun h1 => ?_) (fun h1 => ?_)
      · skip
        refine ac_seq ?_
        refine ac_region ?_
        refine al_y rfl rfl (y_loadN rfl rfl ty78 (by exact Nat.le_of_ble_eq_true rfl)) ?_
        refine al_m rfl (m_store rfl rfl rfl rfl rfl rfl (cE_agg rfl) ty78 (by rfl) (by exact Nat.le_of_ble_eq_true rfl)) ?_
        refine al_y rfl rfl (y_assignV rfl rfl) ?_
        refine al_nil ?_
        refine qt_normal ?_
        refine ac_ret ?_
        refine qb_ret ?_
        refine qt_ret ?_
        refine qt_ret ?_
        refine qb_ret ?_
        refine qt_ret ?_
        exact ⟨.inr rfl, ⟨_, rfl, ⟨_, _, rfl, (res_cell rfl rfl rfl rfl ty78 rfl ⟨_, _, rfl, AVle.of (by rw [find_at hk.2 hlt h1]; rfl), ⟨_, _, rfl, AVle.of (by rw [find_at hk.2 hlt h1]; rfl), ⟨_, _, rfl, AVle.of (by rw [find_at hk.2 hlt h1]; rfl), rfl⟩⟩⟩), ⟨_, _, rfl, AVle.of (by rw [any_at hlt h1]), rfl⟩⟩⟩⟩
      · skip
        refine ac_skip ?_
        refine qb_normal ?_
        refine qt_normal ?_
        refine ac_region ?_
        refine al_y rfl rfl (y_add rfl rfl rfl ⟨(by omega), (by omega)⟩) ?_
        refine al_y rfl rfl (y_moveV rfl rfl) ?_
        refine al_nil ?_
        exact ⟨⟨k + 1, by omega, any_take hk.2 hlt h1⟩, by dsimp only; omega, weak_frM _ ⟨rfl, rfl, rfl, rfl, rfl, trivial⟩ (rfl)⟩
    · skip
      have hge : l.length ≤ k := by simpa using h0
      refine ac_exit ?_
      refine qt_exit ?_
      refine qt_exit ?_
      refine qb_exit ?_
      refine qt_normal ?_
      refine ac_seq ?_
      refine ac_region ?_
      refine al_m rfl (m_alloc rfl rfl zv78 rfl rfl) ?_
      refine al_nil ?_
      refine qt_normal ?_
      refine ac_seq ?_
      refine ac_region ?_
      refine al_y rfl rfl (y_load_ppA (cs := [_, _, _]) rfl rfl rfl rfl rfl (by exact Nat.le_of_ble_eq_true rfl) rfl ty78) ?_
      refine al_m rfl (m_store rfl rfl rfl rfl rfl rfl (cE_agg rfl) ty78 (by rfl) (by exact Nat.le_of_ble_eq_true rfl)) ?_
      refine al_y rfl rfl (y_assignV rfl rfl) ?_
      refine al_nil ?_
      refine qt_normal ?_
      refine ac_ret ?_
      exact ⟨.inr rfl, ⟨_, rfl, ⟨_, _, rfl, (res_cell rfl rfl rfl rfl ty78 rfl ⟨_, _, rfl, AVle.of (by rw [List.take_of_length_le hge] at hk; rw [List.find?_eq_none.2 (by have := hk.2; rw [List.any_eq_false] at this; simpa using this)]; rfl), ⟨_, _, rfl, AVle.of (by rw [List.take_of_length_le hge] at hk; rw [List.find?_eq_none.2 (by have := hk.2; rw [List.any_eq_false] at this; simpa using this)]; rfl), ⟨_, _, rfl, AVle.of (by rw [List.take_of_length_le hge] at hk; rw [List.find?_eq_none.2 (by have := hk.2; rw [List.any_eq_false] at this; simpa using this)]; rfl), rfl⟩⟩⟩), ⟨_, _, rfl, AVle.of (by rw [List.take_of_length_le hge] at hk; rw [hk.2]), rfl⟩⟩⟩⟩

theorem mapB_bad (m : Mp) (h : mapH m = true) : mapB m = !(m.st.any (stnBad m)) := by
  unfold mapB; rw [h, Bool.true_and]
  induction m.st with
  | nil => rfl
  | cons s l ih => simp [stnBad_not, ih, List.any_cons, List.all_cons, Bool.not_or]

/-- chart.valid -/
theorem f99 (m : Mp) : ACall Tryz.prog G 99 [.agg (eMp m)] (.v (.bool (mapB m))) := by
  refine acall_of Tryz.func99 rfl (by kernel_rfl) rfl ?_
  refine ac_seq ?_
  refine ac_region ?_
  refine al_y rfl rfl (y_box rfl (cE_agg rfl)) ?_
  refine al_y rfl rfl (y_assignV rfl rfl) ?_
  refine al_nil ?_
  refine qt_normal ?_
  refine ac_seq ?_
  refine ac_seq ?_
  refine ac_region ?_
  refine al_y rfl rfl (y_fieldAddr rfl rfl fld24_0) ?_
  refine al_y rfl rfl (y_load1 rfl rfl rfl ty3) ?_
  refine al_y rfl rfl (y_callF (av := [_, _, _]) rfl ⟨rfl, rfl, rfl, trivial⟩ (f68 _ _ _)) ?_
  refine al_y rfl rfl (y_not rfl rfl) ?_
  refine al_y rfl rfl (y_moveV rfl rfl) ?_
  refine al_maybe rfl rfl rfl (fun hg => y_fieldAddr rfl rfl fld24_1) ?_
  refine al_maybe rfl rfl rfl (fun hg => y_load1 rfl (if_pos hg) rfl ty3) ?_
  refine al_maybe rfl rfl rfl (fun hg => y_callF (av := [_, _, _]) rfl ⟨((if_pos hg)), rfl, rfl, trivial⟩ (f68 _ _ _)) ?_
  refine al_maybe rfl rfl rfl (fun hg => y_not rfl (if_pos hg)) ?_
  refine al_y rfl rfl (y_or rfl rfl rfl rfl) ?_
  refine al_y rfl rfl (y_moveV rfl rfl) ?_
  refine al_maybe rfl rfl rfl (fun hg => y_fieldAddr rfl rfl fld24_2) ?_
  refine al_maybe rfl rfl rfl (fun hg => y_load1 rfl (if_pos hg) rfl ty3) ?_
  refine al_maybe rfl rfl rfl (fun hg => y_callF (av := [_, _, _]) rfl ⟨((if_pos hg)), rfl, rfl, trivial⟩ (f68 _ _ _)) ?_
  refine al_maybe rfl rfl rfl (fun hg => y_not rfl (if_pos hg)) ?_
  refine al_y rfl rfl (y_or rfl rfl rfl rfl) ?_
  refine al_y rfl rfl (y_moveV rfl rfl) ?_
  refine al_maybe rfl rfl rfl (fun hg => y_fieldAddr rfl rfl fld24_3) ?_
  refine al_maybe rfl rfl rfl (fun hg => y_load1 rfl (if_pos hg) rfl ty22) ?_
  refine al_maybe rfl rfl rfl (fun hg => y_len rfl rfl (if_pos hg) Tryz.underlying22) ?_
  refine al_maybe rfl rfl rfl (fun hg => y_gtr rfl (if_pos hg) rfl) ?_
  refine al_y rfl rfl (y_or rfl rfl rfl rfl) ?_
  refine al_nil ?_
  refine qt_normal ?_
  refine ac_cond rfl (fun h0 => ?_) (fun h0 => ?_)
  · skip
    have hf : mapH m = false := by
            rw [Bool.eq_false_iff]; intro hc; simp [mapH, inB] at hc h0; omega
    refine ac_seq ?_
    refine ac_region ?_
    refine al_y rfl rfl (y_assignV rfl rfl) ?_
    refine al_nil ?_
    refine qt_normal ?_
    refine ac_ret ?_
    refine qt_ret ?_
    exact ⟨.inr rfl, AVle.of (by simp [mapB, hf])⟩
  · skip
    have hh : mapH m = true := by simp [mapH, inB] at h0 ⊢; omega
    have hw : 1 ≤ m.wide ∧ m.wide ≤ 6 := by simp_all [mapH, inB]
    have hr : 1 ≤ m.rows ∧ m.rows ≤ 5 := by simp_all [mapH, inB]
    have hl : m.st.length ≤ 12 := by simp [mapH] at hh; omega
    refine ac_skip ?_
    refine qt_normal ?_
    refine ac_seq ?_
    refine ac_region ?_
    refine al_y rfl rfl (y_fieldAddr rfl rfl fld24_3) ?_
    refine al_y rfl rfl (y_load1 rfl rfl rfl ty22) ?_
    refine al_y rfl rfl (y_makeFunc (fs := []) (cs := [_]) rfl rfl rfl) ?_
    refine al_y rfl rfl (y_callF (av := [_, _]) rfl ⟨rfl, rfl, trivial⟩ (f103 m.st (stnBad m) 137 [] [.ptr (eMp m)] (by omega) (fun s _ => f137 m s hw hr))) ?_
    refine al_y rfl rfl (y_moveP rfl rfl) ?_
    refine al_y rfl rfl (y_extract rfl rfl rfl) ?_
    refine al_y rfl rfl (y_extract rfl rfl rfl) ?_
    refine al_pair  rfl rfl rfl rfl rfl rfl rfl zv78 ty78 rfl (by rfl) (cE_agg rfl) rfl ?_
    refine al_y rfl rfl (y_assignV rfl rfl) ?_
    refine al_nil ?_
    refine qt_normal ?_
    refine ac_seq ?_
    refine ac_region ?_
    refine al_y rfl rfl (y_moveV rfl rfl) ?_
    refine al_y rfl rfl (y_not rfl rfl) ?_
    refine al_y rfl rfl (y_assignV rfl rfl) ?_
    refine al_nil ?_
    refine qt_normal ?_
    refine ac_ret ?_
    exact ⟨.inr rfl, AVle.of (by rw [mapB_bad m hh])⟩
end Go.Av
end
