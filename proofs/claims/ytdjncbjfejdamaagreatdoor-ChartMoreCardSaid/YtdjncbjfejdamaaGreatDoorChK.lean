/- ChartMore. -/
import Derived.Test.YtdjncbjfejdamaaGreatDoorChJ
import Derived.Test.YtdjncbjfejdamaaGreatDoorPlatD
set_option linter.unusedVariables false
set_option linter.unusedSimpArgs false
section
namespace Go.Av
open Go.Proofs
set_option maxRecDepth 100000
set_option maxHeartbeats 200000
set_option linter.unusedSimpArgs false
variable {G : Glob}

def eStnE (s : Stn) : List EV := [I s.pt, I s.lo, I s.hi]
theorem eStnE_pub (l : List Stn) : (l.map eStn).map (fun r => r.map EV.pub) = l.map eStnE := by simp [eStnE, eStn, Function.comp_def]

/-- isobarlaw03.ChartMore -/
theorem f11_triv (hk : KN G) (m : Mp) (s : Stn) (t a b : Int) (h : ¬ (m.st.length ≤ 16 ∧ mapB m = true ∧ m.st.length ≠ 0 ∧ 0 ≤ t ∧ 0 ≤ a ∧ a < (m.st.length : Int) ∧ 0 ≤ b ∧ b < (m.st.length : Int))) : ACall Tryz.prog G 11 [.agg (eMp m), .agg (eStn s), .v (.int .i64 t), .v (.int .i64 a), .v (.int .i64 b)] (.v (.bool true)) := by
  refine acall_of Tryz.func11 rfl (by kernel_rfl) rfl ?_
  refine ac_seq ?_
  refine ac_region ?_
  refine al_y rfl rfl (y_box rfl (cE_agg rfl)) ?_
  refine al_y rfl rfl (y_box rfl (cE_agg rfl)) ?_
  first | refine al_y rfl rfl (y_assignV rfl rfl) ?_ | refine al_y rfl rfl (y_assignP rfl rfl) ?_ | refine al_y rfl rfl (y_assignS rfl rfl) ?_ | refine al_y rfl rfl (y_assignG rfl rfl) ?_
  refine al_nil ?_
  refine qt_normal ?_
  refine ac_seq ?_
  refine ac_seq ?_
  refine ac_region ?_
  first | refine al_y rfl rfl (y_loadN rfl rfl ty24 (by exact Nat.le_of_ble_eq_true rfl)) ?_ | refine al_y rfl rfl (y_load_ppA (cs := [_, _, _, _]) rfl rfl rfl rfl rfl (by exact Nat.le_of_ble_eq_true rfl) rfl ty24) ?_ | refine al_y rfl rfl (y_load_ppN rfl rfl rfl rfl rfl (by exact Nat.le_of_ble_eq_true rfl) rfl ty24) ?_
  refine al_y rfl rfl (y_callF (av := [_]) rfl ⟨rfl, trivial⟩ (f20 m)) ?_
  refine al_y rfl rfl (y_not rfl rfl) ?_
  first | refine al_y rfl rfl (y_moveV rfl rfl) ?_ | refine al_y rfl rfl (y_moveP rfl rfl) ?_ | refine al_y rfl rfl (y_moveS rfl rfl) ?_ | refine al_y rfl rfl (y_moveG rfl rfl) ?_
  first | refine al_maybe rfl rfl rfl (fun hg => y_loadN rfl rfl ty24 (by exact Nat.le_of_ble_eq_true rfl)) ?_ | refine al_maybe rfl rfl rfl (fun hg => y_load_ppA (cs := [_, _, _, _]) rfl rfl rfl rfl rfl (by exact Nat.le_of_ble_eq_true rfl) rfl ty24) ?_ | refine al_maybe rfl rfl rfl (fun hg => y_load_ppN rfl rfl rfl rfl rfl (by exact Nat.le_of_ble_eq_true rfl) rfl ty24) ?_ | refine al_maybe (x := .pub (.tup [])) rfl rfl rfl (fun hg => absurd hg (by decide)) ?_
  first | refine al_maybe rfl rfl rfl (fun hg => y_callF (av := [_]) rfl ⟨(by first | exact (if_pos hg) | exact rfl), trivial⟩ (f40 m)) ?_ | refine al_maybe rfl rfl rfl (fun hg => y_callF (av := [_]) rfl ⟨(by first | exact rfl | exact rfl), trivial⟩ (f40 m)) ?_ | refine al_maybe (x := .pub (.tup [])) rfl rfl rfl (fun hg => absurd hg (by decide)) ?_
  first | refine al_maybe rfl rfl rfl (fun hg => y_not rfl (by first | exact rfl | exact if_pos hg)) ?_ | refine al_maybe rfl rfl rfl (fun hg => y_not rfl rfl) ?_ | refine al_maybe (x := .pub (.tup [])) rfl rfl rfl (fun hg => absurd hg (by decide)) ?_
  first | refine al_y rfl rfl (y_and rfl rfl rfl rfl) ?_ | refine al_y rfl rfl (y_or rfl rfl rfl rfl) ?_ | refine al_y rfl rfl (y_pick rfl rfl (fun _ => rfl) (fun _ => rfl)) ?_
  first | refine al_y rfl rfl (y_moveV rfl rfl) ?_ | refine al_y rfl rfl (y_moveP rfl rfl) ?_ | refine al_y rfl rfl (y_moveS rfl rfl) ?_ | refine al_y rfl rfl (y_moveG rfl rfl) ?_
  first | refine al_maybe rfl rfl rfl (fun hg => y_fieldAddr rfl rfl fld24_3) ?_ | refine al_maybe rfl rfl rfl (fun hg => y_fieldAddr_pp rfl rfl rfl rfl fld24_3) ?_ | refine al_maybe (x := .pub (.tup [])) rfl rfl rfl (fun hg => absurd hg (by decide)) ?_
  first | refine al_maybe rfl rfl rfl (fun hg => y_load1 rfl (by first | exact rfl | exact if_pos hg) rfl ty22) ?_ | refine al_maybe rfl rfl rfl (fun hg => y_load_pp1 rfl (by first | exact rfl | exact if_pos hg) rfl rfl rfl rfl ty22) ?_ | refine al_maybe rfl rfl rfl (fun hg => y_load1 rfl rfl rfl ty22) ?_ | refine al_maybe rfl rfl rfl (fun hg => y_load_pp1 rfl rfl rfl rfl rfl rfl ty22) ?_ | refine al_maybe (x := .pub (.tup [])) rfl rfl rfl (fun hg => absurd hg (by decide)) ?_
  first | refine al_maybe rfl rfl rfl (fun hg => y_len rfl rfl (by first | exact rfl | exact if_pos hg) Tryz.underlying22) ?_ | refine al_maybe rfl rfl rfl (fun hg => y_len_psl rfl (by first | exact rfl | exact if_pos hg) rfl (by simp) Tryz.underlying22) ?_ | refine al_maybe rfl rfl rfl (fun hg => y_len_nil rfl (by first | exact rfl | exact if_pos hg) Tryz.underlying22) ?_ | refine al_maybe rfl rfl rfl (fun hg => y_len rfl rfl rfl Tryz.underlying22) ?_ | refine al_maybe rfl rfl rfl (fun hg => y_len_psl rfl rfl rfl (by simp) Tryz.underlying22) ?_ | refine al_maybe rfl rfl rfl (fun hg => y_len_nil rfl rfl Tryz.underlying22) ?_ | refine al_maybe (x := .pub (.tup [])) rfl rfl rfl (fun hg => absurd hg (by decide)) ?_
  first | refine al_maybe rfl rfl rfl (fun hg => y_eql rfl (by first | exact rfl | exact if_pos hg) rfl) ?_ | refine al_maybe rfl rfl rfl (fun hg => y_eql rfl rfl rfl) ?_ | refine al_maybe (x := .pub (.tup [])) rfl rfl rfl (fun hg => absurd hg (by decide)) ?_
  first | refine al_y rfl rfl (y_and rfl rfl rfl rfl) ?_ | refine al_y rfl rfl (y_or rfl rfl rfl rfl) ?_ | refine al_y rfl rfl (y_pick rfl rfl (fun _ => rfl) (fun _ => rfl)) ?_
  first | refine al_y rfl rfl (y_moveV rfl rfl) ?_ | refine al_y rfl rfl (y_moveP rfl rfl) ?_ | refine al_y rfl rfl (y_moveS rfl rfl) ?_ | refine al_y rfl rfl (y_moveG rfl rfl) ?_
  first | refine al_maybe rfl rfl rfl (fun hg => y_moveV rfl rfl) ?_ | refine al_maybe rfl rfl rfl (fun hg => y_moveP rfl rfl) ?_ | refine al_maybe rfl rfl rfl (fun hg => y_moveS rfl rfl) ?_ | refine al_maybe rfl rfl rfl (fun hg => y_moveG rfl rfl) ?_ | refine al_maybe (x := .pub (.tup [])) rfl rfl rfl (fun hg => absurd hg (by decide)) ?_
  first | refine al_maybe rfl rfl rfl (fun hg => y_lss rfl (by first | exact rfl | exact if_pos hg) rfl) ?_ | refine al_maybe rfl rfl rfl (fun hg => y_lss rfl rfl rfl) ?_ | refine al_maybe (x := .pub (.tup [])) rfl rfl rfl (fun hg => absurd hg (by decide)) ?_
  first | refine al_y rfl rfl (y_and rfl rfl rfl rfl) ?_ | refine al_y rfl rfl (y_or rfl rfl rfl rfl) ?_ | refine al_y rfl rfl (y_pick rfl rfl (fun _ => rfl) (fun _ => rfl)) ?_
  first | refine al_y rfl rfl (y_moveV rfl rfl) ?_ | refine al_y rfl rfl (y_moveP rfl rfl) ?_ | refine al_y rfl rfl (y_moveS rfl rfl) ?_ | refine al_y rfl rfl (y_moveG rfl rfl) ?_
  first | refine al_maybe rfl rfl rfl (fun hg => y_moveV rfl rfl) ?_ | refine al_maybe rfl rfl rfl (fun hg => y_moveP rfl rfl) ?_ | refine al_maybe rfl rfl rfl (fun hg => y_moveS rfl rfl) ?_ | refine al_maybe rfl rfl rfl (fun hg => y_moveG rfl rfl) ?_ | refine al_maybe (x := .pub (.tup [])) rfl rfl rfl (fun hg => absurd hg (by decide)) ?_
  first | refine al_maybe rfl rfl rfl (fun hg => y_lss rfl (by first | exact rfl | exact if_pos hg) rfl) ?_ | refine al_maybe rfl rfl rfl (fun hg => y_lss rfl rfl rfl) ?_ | refine al_maybe (x := .pub (.tup [])) rfl rfl rfl (fun hg => absurd hg (by decide)) ?_
  first | refine al_y rfl rfl (y_and rfl rfl rfl rfl) ?_ | refine al_y rfl rfl (y_or rfl rfl rfl rfl) ?_ | refine al_y rfl rfl (y_pick rfl rfl (fun _ => rfl) (fun _ => rfl)) ?_
  first | refine al_y rfl rfl (y_moveV rfl rfl) ?_ | refine al_y rfl rfl (y_moveP rfl rfl) ?_ | refine al_y rfl rfl (y_moveS rfl rfl) ?_ | refine al_y rfl rfl (y_moveG rfl rfl) ?_
  first | refine al_maybe rfl rfl rfl (fun hg => y_moveV rfl rfl) ?_ | refine al_maybe rfl rfl rfl (fun hg => y_moveP rfl rfl) ?_ | refine al_maybe rfl rfl rfl (fun hg => y_moveS rfl rfl) ?_ | refine al_maybe rfl rfl rfl (fun hg => y_moveG rfl rfl) ?_ | refine al_maybe (x := .pub (.tup [])) rfl rfl rfl (fun hg => absurd hg (by decide)) ?_
  first | refine al_maybe rfl rfl rfl (fun hg => y_fieldAddr rfl rfl fld24_3) ?_ | refine al_maybe rfl rfl rfl (fun hg => y_fieldAddr_pp rfl rfl rfl rfl fld24_3) ?_ | refine al_maybe (x := .pub (.tup [])) rfl rfl rfl (fun hg => absurd hg (by decide)) ?_
  first | refine al_maybe rfl rfl rfl (fun hg => y_load1 rfl (by first | exact rfl | exact if_pos hg) rfl ty22) ?_ | refine al_maybe rfl rfl rfl (fun hg => y_load_pp1 rfl (by first | exact rfl | exact if_pos hg) rfl rfl rfl rfl ty22) ?_ | refine al_maybe rfl rfl rfl (fun hg => y_load1 rfl rfl rfl ty22) ?_ | refine al_maybe rfl rfl rfl (fun hg => y_load_pp1 rfl rfl rfl rfl rfl rfl ty22) ?_ | refine al_maybe (x := .pub (.tup [])) rfl rfl rfl (fun hg => absurd hg (by decide)) ?_
  first | refine al_maybe rfl rfl rfl (fun hg => y_len rfl rfl (by first | exact rfl | exact if_pos hg) Tryz.underlying22) ?_ | refine al_maybe rfl rfl rfl (fun hg => y_len_psl rfl (by first | exact rfl | exact if_pos hg) rfl (by simp) Tryz.underlying22) ?_ | refine al_maybe rfl rfl rfl (fun hg => y_len_nil rfl (by first | exact rfl | exact if_pos hg) Tryz.underlying22) ?_ | refine al_maybe rfl rfl rfl (fun hg => y_len rfl rfl rfl Tryz.underlying22) ?_ | refine al_maybe rfl rfl rfl (fun hg => y_len_psl rfl rfl rfl (by simp) Tryz.underlying22) ?_ | refine al_maybe rfl rfl rfl (fun hg => y_len_nil rfl rfl Tryz.underlying22) ?_ | refine al_maybe (x := .pub (.tup [])) rfl rfl rfl (fun hg => absurd hg (by decide)) ?_
  first | refine al_maybe rfl rfl rfl (fun hg => y_geq rfl (by first | exact rfl | exact if_pos hg) (by first | exact rfl | exact if_pos hg)) ?_ | refine al_maybe rfl rfl rfl (fun hg => y_geq rfl rfl rfl) ?_ | refine al_maybe (x := .pub (.tup [])) rfl rfl rfl (fun hg => absurd hg (by decide)) ?_
  first | refine al_y rfl rfl (y_and rfl rfl rfl rfl) ?_ | refine al_y rfl rfl (y_or rfl rfl rfl rfl) ?_ | refine al_y rfl rfl (y_pick rfl rfl (fun _ => rfl) (fun _ => rfl)) ?_
  first | refine al_y rfl rfl (y_moveV rfl rfl) ?_ | refine al_y rfl rfl (y_moveP rfl rfl) ?_ | refine al_y rfl rfl (y_moveS rfl rfl) ?_ | refine al_y rfl rfl (y_moveG rfl rfl) ?_
  first | refine al_maybe rfl rfl rfl (fun hg => y_moveV rfl rfl) ?_ | refine al_maybe rfl rfl rfl (fun hg => y_moveP rfl rfl) ?_ | refine al_maybe rfl rfl rfl (fun hg => y_moveS rfl rfl) ?_ | refine al_maybe rfl rfl rfl (fun hg => y_moveG rfl rfl) ?_ | refine al_maybe (x := .pub (.tup [])) rfl rfl rfl (fun hg => absurd hg (by decide)) ?_
  first | refine al_maybe rfl rfl rfl (fun hg => y_lss rfl (by first | exact rfl | exact if_pos hg) rfl) ?_ | refine al_maybe rfl rfl rfl (fun hg => y_lss rfl rfl rfl) ?_ | refine al_maybe (x := .pub (.tup [])) rfl rfl rfl (fun hg => absurd hg (by decide)) ?_
  first | refine al_y rfl rfl (y_and rfl rfl rfl rfl) ?_ | refine al_y rfl rfl (y_or rfl rfl rfl rfl) ?_ | refine al_y rfl rfl (y_pick rfl rfl (fun _ => rfl) (fun _ => rfl)) ?_
  first | refine al_y rfl rfl (y_moveV rfl rfl) ?_ | refine al_y rfl rfl (y_moveP rfl rfl) ?_ | refine al_y rfl rfl (y_moveS rfl rfl) ?_ | refine al_y rfl rfl (y_moveG rfl rfl) ?_
  first | refine al_maybe rfl rfl rfl (fun hg => y_moveV rfl rfl) ?_ | refine al_maybe rfl rfl rfl (fun hg => y_moveP rfl rfl) ?_ | refine al_maybe rfl rfl rfl (fun hg => y_moveS rfl rfl) ?_ | refine al_maybe rfl rfl rfl (fun hg => y_moveG rfl rfl) ?_ | refine al_maybe (x := .pub (.tup [])) rfl rfl rfl (fun hg => absurd hg (by decide)) ?_
  first | refine al_maybe rfl rfl rfl (fun hg => y_fieldAddr rfl rfl fld24_3) ?_ | refine al_maybe rfl rfl rfl (fun hg => y_fieldAddr_pp rfl rfl rfl rfl fld24_3) ?_ | refine al_maybe (x := .pub (.tup [])) rfl rfl rfl (fun hg => absurd hg (by decide)) ?_
  first | refine al_maybe rfl rfl rfl (fun hg => y_load1 rfl (by first | exact rfl | exact if_pos hg) rfl ty22) ?_ | refine al_maybe rfl rfl rfl (fun hg => y_load_pp1 rfl (by first | exact rfl | exact if_pos hg) rfl rfl rfl rfl ty22) ?_ | refine al_maybe rfl rfl rfl (fun hg => y_load1 rfl rfl rfl ty22) ?_ | refine al_maybe rfl rfl rfl (fun hg => y_load_pp1 rfl rfl rfl rfl rfl rfl ty22) ?_ | refine al_maybe (x := .pub (.tup [])) rfl rfl rfl (fun hg => absurd hg (by decide)) ?_
  first | refine al_maybe rfl rfl rfl (fun hg => y_len rfl rfl (by first | exact rfl | exact if_pos hg) Tryz.underlying22) ?_ | refine al_maybe rfl rfl rfl (fun hg => y_len_psl rfl (by first | exact rfl | exact if_pos hg) rfl (by simp) Tryz.underlying22) ?_ | refine al_maybe rfl rfl rfl (fun hg => y_len_nil rfl (by first | exact rfl | exact if_pos hg) Tryz.underlying22) ?_ | refine al_maybe rfl rfl rfl (fun hg => y_len rfl rfl rfl Tryz.underlying22) ?_ | refine al_maybe rfl rfl rfl (fun hg => y_len_psl rfl rfl rfl (by simp) Tryz.underlying22) ?_ | refine al_maybe rfl rfl rfl (fun hg => y_len_nil rfl rfl Tryz.underlying22) ?_ | refine al_maybe (x := .pub (.tup [])) rfl rfl rfl (fun hg => absurd hg (by decide)) ?_
  first | refine al_maybe rfl rfl rfl (fun hg => y_geq rfl (by first | exact rfl | exact if_pos hg) (by first | exact rfl | exact if_pos hg)) ?_ | refine al_maybe rfl rfl rfl (fun hg => y_geq rfl rfl rfl) ?_ | refine al_maybe (x := .pub (.tup [])) rfl rfl rfl (fun hg => absurd hg (by decide)) ?_
  first | refine al_y rfl rfl (y_and rfl rfl rfl rfl) ?_ | refine al_y rfl rfl (y_or rfl rfl rfl rfl) ?_ | refine al_y rfl rfl (y_pick rfl rfl (fun _ => rfl) (fun _ => rfl)) ?_
  refine al_nil ?_
  refine qt_normal ?_
  refine ac_cond rfl (fun h0 => ?_) (fun h0 => ?_)
  · skip
    refine ac_seq ?_
    refine ac_region ?_
    refine al_y rfl rfl (y_callF (av := []) rfl trivial hk) ?_
    first | refine al_y rfl rfl (y_assignV rfl rfl) ?_ | refine al_y rfl rfl (y_assignP rfl rfl) ?_ | refine al_y rfl rfl (y_assignS rfl rfl) ?_ | refine al_y rfl rfl (y_assignG rfl rfl) ?_
    refine al_nil ?_
    refine qt_normal ?_
    refine ac_ret ?_
    refine qt_ret ?_
    exact ⟨.inr rfl, AVle.refl _⟩
  · skip
    exfalso; apply h; simp at h0; obtain ⟨⟨⟨⟨⟨⟨⟨q1, q2⟩, q3⟩, q4⟩, q5⟩, q6⟩, q7⟩, q8⟩ := h0; exact ⟨by omega, q2, by omega, by omega, by omega, by omega, by omega, by omega⟩

theorem el22 : elemIs Tryz.prog 22 78 3 24 := ⟨Tryz.underlying22, Tryz.t78, _, by kernel_rfl, rfl, rfl, rfl, rfl, by decide⟩
theorem e3 {X : List Stn} : ∀ r ∈ X.map eStnE, r.length = 3 := fun r hr => by
  obtain ⟨q, _, rfl⟩ := List.mem_map.1 hr; rfl
theorem e3s {L : List (List EV)} {i : Nat} {c : List EV} (h : ∀ r ∈ L, r.length = 3) (hc : c.length = 3) : ∀ r ∈ L.set i c, r.length = 3 := fun r hr => by
  rcases List.mem_or_eq_of_mem_set hr with h1 | h1
  · exact h r h1
  · rw [h1]; exact hc
theorem sl_len {l : List (List AV)} (h : ∀ q ∈ l, q.length = 3) {i j : Nat} : ∀ r ∈ ((l.take i).drop j).map (fun r => r.map EV.pub), r.length = 3 := fun r hr => by
  obtain ⟨q, hq, rfl⟩ := List.mem_map.1 hr
  rw [List.length_map]; exact h q (List.mem_of_mem_take (List.mem_of_mem_drop hq))
theorem sl_len0 {l : List (List AV)} (h : ∀ q ∈ l, q.length = 3) : ∀ r ∈ l.map (fun r => r.map EV.pub), r.length = 3 := fun r hr => by
  obtain ⟨q, hq, rfl⟩ := List.mem_map.1 hr
  rw [List.length_map]; exact h q hq
theorem mem_eqD {w r s : EV} {k k' : Nat} {A B : List (List EV)} {M : PO} (h1 : k = k') (h2 : A = B) : [PO.row [[w, r, s, .psl 2 k]], M, .row A] = [PO.row [[w, r, s, .psl 2 k']], M, .row B] := by subst h1; subst h2; rfl
theorem mem_eqE {M N : PO} {A B : List (List EV)} (h2 : A = B) : [M, N, .row A] = [M, N, .row B] := by subst h2; rfl
theorem mem_eqF {w r s : EV} {k k' : Nat} {A B : List (List EV)} {M N : PO} (h1 : k = k') (h2 : A = B) : [M, .row [[w, r, s, .psl 3 k]], N, .row A] = [M, .row [[w, r, s, .psl 3 k']], N, .row B] := by subst h1; subst h2; rfl
theorem rowsA (l : List Stn) (n : Nat) : (((l.map eStn).take (((l.map eStn).length : Nat) : Int).toNat).drop ((n : Int).toNat)).map (fun r => r.map EV.pub) = (l.drop n).map eStnE := by
  rw [List.take_of_length_le (by simp), Int.toNat_natCast, ← List.map_drop, eStnE_pub]
theorem rowsB (l : List Stn) (n : Nat) : (((l.map eStn).take ((n : Int).toNat)).drop ((0 : Int).toNat)).map (fun r => r.map EV.pub) = (l.take n).map eStnE := by
  rw [Int.toNat_natCast, ← List.map_take]; exact eStnE_pub _
theorem swap_rows (X : List Stn) (a b : Nat) (x y : Stn) : ((X.map eStnE).set ((a : Nat) : Int).toNat (eStnE x)).set ((b : Nat) : Int).toNat (eStnE y) = ((X.set a x).set b y).map eStnE := by simp [List.map_set]
theorem x_at {X : List Stn} {k : Nat} (h : k < X.length) : (X.map eStnE)[((k : Nat) : Int).toNat]? = some (eStnE X[k]) := by simp [h]
theorem x_at2 {X : List Stn} {a b : Nat} (hb : b < X.length) : ((X.map eStnE).set ((a : Nat) : Int).toNat (eStnE X[b]))[((b : Nat) : Int).toNat]? = some (eStnE X[b]) := by
  simp only [Int.toNat_natCast, List.getElem?_set]
  split
  · rename_i e; subst e; simp [hb]
  · simp [hb]

/-- isobarlaw03.ChartMore -/
theorem f11_main (hkn : KN G) (m : Mp) (s : Stn) (t a b : Nat) (hs : m.st.length ≤ 16) (hm : okM m) (h0l : m.st.length ≠ 0) (ha : a < m.st.length) (hb : b < m.st.length) (X Y : List Stn) (hX : X = m.st.drop (t % m.st.length) ++ m.st.take (t % m.st.length)) (hXa : a < X.length) (hXb : b < X.length) (hY : Y = (X.set a X[b]).set b X[a]) (la : List (Int × Int)) (E : Int) (fm : Fld) (hla : la.length ≤ 1000) (hfm : fm.vals.length ≤ 1000) (h50m : ACall Tryz.prog G 50 [.agg (eMp m)] (.tup [eSpans la, ei E])) (h50x : ACall Tryz.prog G 50 [.agg (eMp (withS m Y))] (.tup [eSpans la, ei E])) (h22m : ACall Tryz.prog G 22 [.agg (eMp m)] (.tup [.agg (eFld fm), ei E])) (h22x : ACall Tryz.prog G 22 [.agg (eMp (withS m Y))] (.tup [.agg (eFld fm), ei E])) (hy : mapB (withS m (m.st ++ [s])) = true → ∃ ly Ey, ACall Tryz.prog G 50 [.agg (eMp (withS m (m.st ++ [s])))] (.tup [eSpans ly, ei Ey]) ∧ ly.length ≤ 1000 ∧ (Ey = 7 ∨ (Ey = 0 ∧ E = 0 ∧ ly.length = la.length ∧ ∀ (k : Nat) (h1 : k < ly.length) (h2 : k < la.length), la[k].1 ≤ ly[k].1 ∧ ly[k].2 ≤ la[k].2))) : ACall Tryz.prog G 11 [.agg (eMp m), .agg (eStn s), .v (.int .i64 (t : Int)), .v (.int .i64 (a : Int)), .v (.int .i64 (b : Int))] (.v (.bool true)) := by
  have hb2 : mapB m = true := (okM_iff m).2 hm
  have hl12 := hm.2.2.2.2.2.2.1
  have hml : (m.st.map eStn).length = m.st.length := List.length_map ..
  obtain ⟨nn, hnn0⟩ : ∃ nn : Nat, nn = t % m.st.length := ⟨_, rfl⟩
  rw [← hnn0] at hX
  have hnnl : nn < m.st.length := by rw [hnn0]; exact Nat.mod_lt _ (by omega)
  have hnn : I ((t : Int) % (((m.st.map eStn).length : Nat) : Int)) = I (nn : Int) := by rw [hml, hnn0]; simp
  have hXl : X.length = m.st.length := by rw [hX]; simp; omega
  have hYl : Y.length = m.st.length := by rw [hY]; simp [hXl]
  refine acall_of Tryz.func11 rfl (by kernel_rfl) rfl ?_
  refine ac_seq ?_
  refine ac_region ?_
  refine al_y rfl rfl (y_box rfl (cE_agg rfl)) ?_
  refine al_y rfl rfl (y_box rfl (cE_agg rfl)) ?_
  first | refine al_y rfl rfl (y_assignV rfl rfl) ?_ | refine al_y rfl rfl (y_assignP rfl rfl) ?_ | refine al_y rfl rfl (y_assignS rfl rfl) ?_ | refine al_y rfl rfl (y_assignG rfl rfl) ?_
  refine al_nil ?_
  refine qt_normal ?_
  refine ac_seq ?_
  refine ac_seq ?_
  refine ac_region ?_
  first | refine al_y rfl rfl (y_loadN rfl rfl ty24 (by exact Nat.le_of_ble_eq_true rfl)) ?_ | refine al_y rfl rfl (y_load_ppA (cs := [_, _, _, _]) rfl rfl rfl rfl rfl (by exact Nat.le_of_ble_eq_true rfl) rfl ty24) ?_ | refine al_y rfl rfl (y_load_ppN rfl rfl rfl rfl rfl (by exact Nat.le_of_ble_eq_true rfl) rfl ty24) ?_
  refine al_y rfl rfl (y_callF (av := [_]) rfl ⟨rfl, trivial⟩ (f20 m)) ?_
  refine al_y rfl rfl (y_not rfl rfl) ?_
  first | refine al_y rfl rfl (y_moveV rfl rfl) ?_ | refine al_y rfl rfl (y_moveP rfl rfl) ?_ | refine al_y rfl rfl (y_moveS rfl rfl) ?_ | refine al_y rfl rfl (y_moveG rfl rfl) ?_
  first | refine al_maybe rfl rfl rfl (fun hg => y_loadN rfl rfl ty24 (by exact Nat.le_of_ble_eq_true rfl)) ?_ | refine al_maybe rfl rfl rfl (fun hg => y_load_ppA (cs := [_, _, _, _]) rfl rfl rfl rfl rfl (by exact Nat.le_of_ble_eq_true rfl) rfl ty24) ?_ | refine al_maybe rfl rfl rfl (fun hg => y_load_ppN rfl rfl rfl rfl rfl (by exact Nat.le_of_ble_eq_true rfl) rfl ty24) ?_ | refine al_maybe (x := .pub (.tup [])) rfl rfl rfl (fun hg => absurd hg (by decide)) ?_
  first | refine al_maybe rfl rfl rfl (fun hg => y_callF (av := [_]) rfl ⟨(by first | exact (if_pos hg) | exact rfl), trivial⟩ (by first | exact f40 m | exact f40 (withS m (m.st ++ [s])))) ?_ | refine al_maybe rfl rfl rfl (fun hg => y_callF (av := [_]) rfl ⟨(by first | exact rfl | exact rfl), trivial⟩ (by first | exact f40 m | exact f40 (withS m (m.st ++ [s])))) ?_ | refine al_maybe (x := .pub (.tup [])) rfl rfl rfl (fun hg => absurd hg (by decide)) ?_
  first | refine al_maybe rfl rfl rfl (fun hg => y_not rfl (by first | exact rfl | exact if_pos hg)) ?_ | refine al_maybe rfl rfl rfl (fun hg => y_not rfl rfl) ?_ | refine al_maybe (x := .pub (.tup [])) rfl rfl rfl (fun hg => absurd hg (by decide)) ?_
  first | refine al_y rfl rfl (y_and rfl rfl rfl rfl) ?_ | refine al_y rfl rfl (y_or rfl rfl rfl rfl) ?_ | refine al_y rfl rfl (y_pick rfl rfl (fun _ => rfl) (fun _ => rfl)) ?_
  first | refine al_y rfl rfl (y_moveV rfl rfl) ?_ | refine al_y rfl rfl (y_moveP rfl rfl) ?_ | refine al_y rfl rfl (y_moveS rfl rfl) ?_ | refine al_y rfl rfl (y_moveG rfl rfl) ?_
  first | refine al_maybe rfl rfl rfl (fun hg => y_fieldAddr rfl rfl fld24_3) ?_ | refine al_maybe rfl rfl rfl (fun hg => y_fieldAddr_pp rfl rfl rfl rfl fld24_3) ?_ | refine al_maybe (x := .pub (.tup [])) rfl rfl rfl (fun hg => absurd hg (by decide)) ?_
  first | refine al_maybe rfl rfl rfl (fun hg => y_load1 rfl (by first | exact rfl | exact if_pos hg) rfl ty22) ?_ | refine al_maybe rfl rfl rfl (fun hg => y_load_pp1 rfl (by first | exact rfl | exact if_pos hg) rfl rfl rfl rfl ty22) ?_ | refine al_maybe rfl rfl rfl (fun hg => y_load1 rfl rfl rfl ty22) ?_ | refine al_maybe rfl rfl rfl (fun hg => y_load_pp1 rfl rfl rfl rfl rfl rfl ty22) ?_ | refine al_maybe (x := .pub (.tup [])) rfl rfl rfl (fun hg => absurd hg (by decide)) ?_
  first | refine al_maybe rfl rfl rfl (fun hg => y_len rfl rfl (by first | exact rfl | exact if_pos hg) Tryz.underlying22) ?_ | refine al_maybe rfl rfl rfl (fun hg => y_len_psl rfl (by first | exact rfl | exact if_pos hg) rfl (by simp) Tryz.underlying22) ?_ | refine al_maybe rfl rfl rfl (fun hg => y_len_nil rfl (by first | exact rfl | exact if_pos hg) Tryz.underlying22) ?_ | refine al_maybe rfl rfl rfl (fun hg => y_len rfl rfl rfl Tryz.underlying22) ?_ | refine al_maybe rfl rfl rfl (fun hg => y_len_psl rfl rfl rfl (by simp) Tryz.underlying22) ?_ | refine al_maybe rfl rfl rfl (fun hg => y_len_nil rfl rfl Tryz.underlying22) ?_ | refine al_maybe (x := .pub (.tup [])) rfl rfl rfl (fun hg => absurd hg (by decide)) ?_
  first | refine al_maybe rfl rfl rfl (fun hg => y_eql rfl (by first | exact rfl | exact if_pos hg) rfl) ?_ | refine al_maybe rfl rfl rfl (fun hg => y_eql rfl rfl rfl) ?_ | refine al_maybe (x := .pub (.tup [])) rfl rfl rfl (fun hg => absurd hg (by decide)) ?_
  first | refine al_y rfl rfl (y_and rfl rfl rfl rfl) ?_ | refine al_y rfl rfl (y_or rfl rfl rfl rfl) ?_ | refine al_y rfl rfl (y_pick rfl rfl (fun _ => rfl) (fun _ => rfl)) ?_
  first | refine al_y rfl rfl (y_moveV rfl rfl) ?_ | refine al_y rfl rfl (y_moveP rfl rfl) ?_ | refine al_y rfl rfl (y_moveS rfl rfl) ?_ | refine al_y rfl rfl (y_moveG rfl rfl) ?_
  first | refine al_maybe rfl rfl rfl (fun hg => y_moveV rfl rfl) ?_ | refine al_maybe rfl rfl rfl (fun hg => y_moveP rfl rfl) ?_ | refine al_maybe rfl rfl rfl (fun hg => y_moveS rfl rfl) ?_ | refine al_maybe rfl rfl rfl (fun hg => y_moveG rfl rfl) ?_ | refine al_maybe (x := .pub (.tup [])) rfl rfl rfl (fun hg => absurd hg (by decide)) ?_
  first | refine al_maybe rfl rfl rfl (fun hg => y_lss rfl (by first | exact rfl | exact if_pos hg) rfl) ?_ | refine al_maybe rfl rfl rfl (fun hg => y_lss rfl rfl rfl) ?_ | refine al_maybe (x := .pub (.tup [])) rfl rfl rfl (fun hg => absurd hg (by decide)) ?_
  first | refine al_y rfl rfl (y_and rfl rfl rfl rfl) ?_ | refine al_y rfl rfl (y_or rfl rfl rfl rfl) ?_ | refine al_y rfl rfl (y_pick rfl rfl (fun _ => rfl) (fun _ => rfl)) ?_
  first | refine al_y rfl rfl (y_moveV rfl rfl) ?_ | refine al_y rfl rfl (y_moveP rfl rfl) ?_ | refine al_y rfl rfl (y_moveS rfl rfl) ?_ | refine al_y rfl rfl (y_moveG rfl rfl) ?_
  first | refine al_maybe rfl rfl rfl (fun hg => y_moveV rfl rfl) ?_ | refine al_maybe rfl rfl rfl (fun hg => y_moveP rfl rfl) ?_ | refine al_maybe rfl rfl rfl (fun hg => y_moveS rfl rfl) ?_ | refine al_maybe rfl rfl rfl (fun hg => y_moveG rfl rfl) ?_ | refine al_maybe (x := .pub (.tup [])) rfl rfl rfl (fun hg => absurd hg (by decide)) ?_
  first | refine al_maybe rfl rfl rfl (fun hg => y_lss rfl (by first | exact rfl | exact if_pos hg) rfl) ?_ | refine al_maybe rfl rfl rfl (fun hg => y_lss rfl rfl rfl) ?_ | refine al_maybe (x := .pub (.tup [])) rfl rfl rfl (fun hg => absurd hg (by decide)) ?_
  first | refine al_y rfl rfl (y_and rfl rfl rfl rfl) ?_ | refine al_y rfl rfl (y_or rfl rfl rfl rfl) ?_ | refine al_y rfl rfl (y_pick rfl rfl (fun _ => rfl) (fun _ => rfl)) ?_
  first | refine al_y rfl rfl (y_moveV rfl rfl) ?_ | refine al_y rfl rfl (y_moveP rfl rfl) ?_ | refine al_y rfl rfl (y_moveS rfl rfl) ?_ | refine al_y rfl rfl (y_moveG rfl rfl) ?_
  first | refine al_maybe rfl rfl rfl (fun hg => y_moveV rfl rfl) ?_ | refine al_maybe rfl rfl rfl (fun hg => y_moveP rfl rfl) ?_ | refine al_maybe rfl rfl rfl (fun hg => y_moveS rfl rfl) ?_ | refine al_maybe rfl rfl rfl (fun hg => y_moveG rfl rfl) ?_ | refine al_maybe (x := .pub (.tup [])) rfl rfl rfl (fun hg => absurd hg (by decide)) ?_
  first | refine al_maybe rfl rfl rfl (fun hg => y_fieldAddr rfl rfl fld24_3) ?_ | refine al_maybe rfl rfl rfl (fun hg => y_fieldAddr_pp rfl rfl rfl rfl fld24_3) ?_ | refine al_maybe (x := .pub (.tup [])) rfl rfl rfl (fun hg => absurd hg (by decide)) ?_
  first | refine al_maybe rfl rfl rfl (fun hg => y_load1 rfl (by first | exact rfl | exact if_pos hg) rfl ty22) ?_ | refine al_maybe rfl rfl rfl (fun hg => y_load_pp1 rfl (by first | exact rfl | exact if_pos hg) rfl rfl rfl rfl ty22) ?_ | refine al_maybe rfl rfl rfl (fun hg => y_load1 rfl rfl rfl ty22) ?_ | refine al_maybe rfl rfl rfl (fun hg => y_load_pp1 rfl rfl rfl rfl rfl rfl ty22) ?_ | refine al_maybe (x := .pub (.tup [])) rfl rfl rfl (fun hg => absurd hg (by decide)) ?_
  first | refine al_maybe rfl rfl rfl (fun hg => y_len rfl rfl (by first | exact rfl | exact if_pos hg) Tryz.underlying22) ?_ | refine al_maybe rfl rfl rfl (fun hg => y_len_psl rfl (by first | exact rfl | exact if_pos hg) rfl (by simp) Tryz.underlying22) ?_ | refine al_maybe rfl rfl rfl (fun hg => y_len_nil rfl (by first | exact rfl | exact if_pos hg) Tryz.underlying22) ?_ | refine al_maybe rfl rfl rfl (fun hg => y_len rfl rfl rfl Tryz.underlying22) ?_ | refine al_maybe rfl rfl rfl (fun hg => y_len_psl rfl rfl rfl (by simp) Tryz.underlying22) ?_ | refine al_maybe rfl rfl rfl (fun hg => y_len_nil rfl rfl Tryz.underlying22) ?_ | refine al_maybe (x := .pub (.tup [])) rfl rfl rfl (fun hg => absurd hg (by decide)) ?_
  first | refine al_maybe rfl rfl rfl (fun hg => y_geq rfl (by first | exact rfl | exact if_pos hg) (by first | exact rfl | exact if_pos hg)) ?_ | refine al_maybe rfl rfl rfl (fun hg => y_geq rfl rfl rfl) ?_ | refine al_maybe (x := .pub (.tup [])) rfl rfl rfl (fun hg => absurd hg (by decide)) ?_
  first | refine al_y rfl rfl (y_and rfl rfl rfl rfl) ?_ | refine al_y rfl rfl (y_or rfl rfl rfl rfl) ?_ | refine al_y rfl rfl (y_pick rfl rfl (fun _ => rfl) (fun _ => rfl)) ?_
  first | refine al_y rfl rfl (y_moveV rfl rfl) ?_ | refine al_y rfl rfl (y_moveP rfl rfl) ?_ | refine al_y rfl rfl (y_moveS rfl rfl) ?_ | refine al_y rfl rfl (y_moveG rfl rfl) ?_
  first | refine al_maybe rfl rfl rfl (fun hg => y_moveV rfl rfl) ?_ | refine al_maybe rfl rfl rfl (fun hg => y_moveP rfl rfl) ?_ | refine al_maybe rfl rfl rfl (fun hg => y_moveS rfl rfl) ?_ | refine al_maybe rfl rfl rfl (fun hg => y_moveG rfl rfl) ?_ | refine al_maybe (x := .pub (.tup [])) rfl rfl rfl (fun hg => absurd hg (by decide)) ?_
  first | refine al_maybe rfl rfl rfl (fun hg => y_lss rfl (by first | exact rfl | exact if_pos hg) rfl) ?_ | refine al_maybe rfl rfl rfl (fun hg => y_lss rfl rfl rfl) ?_ | refine al_maybe (x := .pub (.tup [])) rfl rfl rfl (fun hg => absurd hg (by decide)) ?_
  first | refine al_y rfl rfl (y_and rfl rfl rfl rfl) ?_ | refine al_y rfl rfl (y_or rfl rfl rfl rfl) ?_ | refine al_y rfl rfl (y_pick rfl rfl (fun _ => rfl) (fun _ => rfl)) ?_
  first | refine al_y rfl rfl (y_moveV rfl rfl) ?_ | refine al_y rfl rfl (y_moveP rfl rfl) ?_ | refine al_y rfl rfl (y_moveS rfl rfl) ?_ | refine al_y rfl rfl (y_moveG rfl rfl) ?_
  first | refine al_maybe rfl rfl rfl (fun hg => y_moveV rfl rfl) ?_ | refine al_maybe rfl rfl rfl (fun hg => y_moveP rfl rfl) ?_ | refine al_maybe rfl rfl rfl (fun hg => y_moveS rfl rfl) ?_ | refine al_maybe rfl rfl rfl (fun hg => y_moveG rfl rfl) ?_ | refine al_maybe (x := .pub (.tup [])) rfl rfl rfl (fun hg => absurd hg (by decide)) ?_
  first | refine al_maybe rfl rfl rfl (fun hg => y_fieldAddr rfl rfl fld24_3) ?_ | refine al_maybe rfl rfl rfl (fun hg => y_fieldAddr_pp rfl rfl rfl rfl fld24_3) ?_ | refine al_maybe (x := .pub (.tup [])) rfl rfl rfl (fun hg => absurd hg (by decide)) ?_
  first | refine al_maybe rfl rfl rfl (fun hg => y_load1 rfl (by first | exact rfl | exact if_pos hg) rfl ty22) ?_ | refine al_maybe rfl rfl rfl (fun hg => y_load_pp1 rfl (by first | exact rfl | exact if_pos hg) rfl rfl rfl rfl ty22) ?_ | refine al_maybe rfl rfl rfl (fun hg => y_load1 rfl rfl rfl ty22) ?_ | refine al_maybe rfl rfl rfl (fun hg => y_load_pp1 rfl rfl rfl rfl rfl rfl ty22) ?_ | refine al_maybe (x := .pub (.tup [])) rfl rfl rfl (fun hg => absurd hg (by decide)) ?_
  first | refine al_maybe rfl rfl rfl (fun hg => y_len rfl rfl (by first | exact rfl | exact if_pos hg) Tryz.underlying22) ?_ | refine al_maybe rfl rfl rfl (fun hg => y_len_psl rfl (by first | exact rfl | exact if_pos hg) rfl (by simp) Tryz.underlying22) ?_ | refine al_maybe rfl rfl rfl (fun hg => y_len_nil rfl (by first | exact rfl | exact if_pos hg) Tryz.underlying22) ?_ | refine al_maybe rfl rfl rfl (fun hg => y_len rfl rfl rfl Tryz.underlying22) ?_ | refine al_maybe rfl rfl rfl (fun hg => y_len_psl rfl rfl rfl (by simp) Tryz.underlying22) ?_ | refine al_maybe rfl rfl rfl (fun hg => y_len_nil rfl rfl Tryz.underlying22) ?_ | refine al_maybe (x := .pub (.tup [])) rfl rfl rfl (fun hg => absurd hg (by decide)) ?_
  first | refine al_maybe rfl rfl rfl (fun hg => y_geq rfl (by first | exact rfl | exact if_pos hg) (by first | exact rfl | exact if_pos hg)) ?_ | refine al_maybe rfl rfl rfl (fun hg => y_geq rfl rfl rfl) ?_ | refine al_maybe (x := .pub (.tup [])) rfl rfl rfl (fun hg => absurd hg (by decide)) ?_
  first | refine al_y rfl rfl (y_and rfl rfl rfl rfl) ?_ | refine al_y rfl rfl (y_or rfl rfl rfl rfl) ?_ | refine al_y rfl rfl (y_pick rfl rfl (fun _ => rfl) (fun _ => rfl)) ?_
  refine al_nil ?_
  refine qt_normal ?_
  refine ac_cond rfl (fun h0 => ?_) (fun h0 => ?_)
  · skip
    exfalso; have hne : m.st ≠ [] := fun e => h0l (by rw [e]; rfl)
    simp [hb2, hne] at h0; omega
  · skip
    refine ac_skip ?_
    refine qt_normal ?_
    refine ac_seq ?_
    refine ac_weak weak_hole ?_
    refine ac_weak weak_hole ?_
    refine ac_mix (fun _ => True) (fun k => match k with | 0 => .stable | 1 => .stable | 2 => .own 0 | 3 => .own 1 | 4 => .writes | 5 => .writes | _ => .here) mixed (by kernel_rfl) rfl (by kernel_rfl) trivial ?_
    first | refine am_s rfl rfl (fun m hm => y_loadN rfl rfl ty24 (by exact Nat.le_of_ble_eq_true rfl)) ?_ | refine am_s rfl rfl (fun m hm => y_load_ppA (cs := [_, _, _, _]) rfl rfl rfl rfl rfl (by exact Nat.le_of_ble_eq_true rfl) rfl ty24) ?_ | refine am_s rfl rfl (fun m hm => y_load_ppN rfl rfl rfl rfl rfl (by exact Nat.le_of_ble_eq_true rfl) rfl ty24) ?_
    first | refine am_s rfl rfl (fun m hm => y_loadN rfl rfl ty24 (by exact Nat.le_of_ble_eq_true rfl)) ?_ | refine am_s rfl rfl (fun m hm => y_load_ppA (cs := [_, _, _, _]) rfl rfl rfl rfl rfl (by exact Nat.le_of_ble_eq_true rfl) rfl ty24) ?_ | refine am_s rfl rfl (fun m hm => y_load_ppN rfl rfl rfl rfl rfl (by exact Nat.le_of_ble_eq_true rfl) rfl ty24) ?_
    refine am_o rfl rfl (opB_alloc rfl zv24 rfl rfl rfl) ?_
    refine am_o rfl rfl (opB_alloc rfl zv24 rfl rfl rfl) ?_
    refine am_w rfl rfl (opB_store rfl rfl rfl rfl rfl rfl (by first | exact cE_v rfl | exact cE_sl rfl | exact cE_ptr rfl | exact cE_agg rfl | exact cE_psl rfl rfl (by simp) | exact cE_mix rfl | exact cE_fn rfl | exact cE_ifc rfl) ty24 (by rfl) (by rfl)) trivial ?_
    refine am_w rfl rfl (opB_store rfl rfl rfl rfl rfl rfl (by first | exact cE_v rfl | exact cE_sl rfl | exact cE_ptr rfl | exact cE_agg rfl | exact cE_psl rfl rfl (by simp) | exact cE_mix rfl | exact cE_fn rfl | exact cE_ifc rfl) ty24 (by rfl) (by rfl)) trivial ?_
    refine am_nil ?_
    refine qt_normal ?_
    refine ac_seq ?_
    refine ac_region ?_
    first | refine al_y rfl rfl (y_moveV rfl rfl) ?_ | refine al_y rfl rfl (y_moveP rfl rfl) ?_ | refine al_y rfl rfl (y_moveS rfl rfl) ?_ | refine al_y rfl rfl (y_moveG rfl rfl) ?_
    first | refine al_y rfl rfl (y_fieldAddr rfl rfl fld24_3) ?_ | refine al_y rfl rfl (y_fieldAddr_pp rfl rfl rfl rfl fld24_3) ?_
    first | refine al_y rfl rfl (y_load1 rfl rfl rfl ty22) ?_ | refine al_y rfl rfl (y_load_pp1 rfl rfl rfl rfl rfl rfl ty22) ?_
    first | refine al_y rfl rfl (y_len rfl rfl rfl Tryz.underlying22) ?_ | refine al_y rfl rfl (y_len_psl rfl rfl rfl (by simp) Tryz.underlying22) ?_ | refine al_y rfl rfl (y_len_nil rfl rfl Tryz.underlying22) ?_
    refine al_y rfl rfl (y_rem rfl rfl rfl ⟨(by omega), (by omega)⟩) ?_
    first | refine al_y rfl rfl (y_assignV rfl rfl) ?_ | refine al_y rfl rfl (y_assignP rfl rfl) ?_ | refine al_y rfl rfl (y_assignS rfl rfl) ?_ | refine al_y rfl rfl (y_assignG rfl rfl) ?_
    refine al_nil ?_
    refine qt_normal ?_
    refine ac_seq ?_
    refine ac_weak (weak_frM (mem' := [.row [[I m.wide, I m.rows, I m.slope, .pub (.sl (m.st.map eStn))]], .row [[I m.wide, I m.rows, I m.slope, .pub (.sl (m.st.map eStn))]]]) [(2, I (t : Int)), (3, I (a : Int)), (4, I (b : Int)), (5, .pub (.ptr (eMp m))), (6, .pub (.ptr (eStn s))), (11, .pp 0 1 0 0), (12, .pp 1 1 0 0), (13, I (nn : Int))] ⟨rfl, rfl, rfl, rfl, rfl, rfl, rfl, hnn, trivial⟩ rfl) ?_
    refine ac_weak weak_hole ?_
    refine ac_mix (fun mm => ∃ rows, mm[0]? = some (.row rows) ∧ rows.length = 1) (fun k => match k with | 0 => .stable | 1 => .stable | 2 => .stable | 3 => .stable | 4 => .writes | 5 => .stable | 6 => .stable | 7 => .stable | 8 => .stable | 9 => .writes | 10 => .stable | 11 => .writes | _ => .here) mixed (by kernel_rfl) rfl (by kernel_rfl) ⟨_, rfl, rfl⟩ ?_
    first | refine am_s rfl rfl (fun m hm => y_fieldAddr rfl rfl fld24_3) ?_ | refine am_s rfl rfl (fun m hm => y_fieldAddr_pp rfl rfl hm.choose_spec.1 hm.choose_spec.2 fld24_3) ?_
    first | refine am_s rfl rfl (fun m hm => y_load1 rfl rfl rfl ty22) ?_ | refine am_s rfl rfl (fun m hm => y_load_pp1 rfl rfl rfl rfl rfl rfl ty22) ?_
    first | refine am_s rfl rfl (fun m hm => y_moveV rfl rfl) ?_ | refine am_s rfl rfl (fun m hm => y_moveP rfl rfl) ?_ | refine am_s rfl rfl (fun m hm => y_moveS rfl rfl) ?_ | refine am_s rfl rfl (fun m hm => y_moveG rfl rfl) ?_
    refine am_s rfl rfl (fun m hm => y_slice rfl rfl rfl rfl slc22 stn_len (by omega) (by omega) (by omega)) ?_
    refine am_w rfl rfl (opB_appendN (l := 2) rfl rfl rfl rfl rfl el22 (sl_len stn_len) (by simp; omega) (by unfold maxLen; simp; omega)) ⟨_, rfl, rfl⟩ ?_
    first | refine am_s rfl rfl (fun m hm => y_fieldAddr rfl rfl fld24_3) ?_ | refine am_s rfl rfl (fun m hm => y_fieldAddr_pp rfl rfl hm.choose_spec.1 hm.choose_spec.2 fld24_3) ?_
    first | refine am_s rfl rfl (fun m hm => y_load1 rfl rfl rfl ty22) ?_ | refine am_s rfl rfl (fun m hm => y_load_pp1 rfl rfl rfl rfl rfl rfl ty22) ?_
    first | refine am_s rfl rfl (fun m hm => y_moveV rfl rfl) ?_ | refine am_s rfl rfl (fun m hm => y_moveP rfl rfl) ?_ | refine am_s rfl rfl (fun m hm => y_moveS rfl rfl) ?_ | refine am_s rfl rfl (fun m hm => y_moveG rfl rfl) ?_
    refine am_s rfl rfl (fun m hm => y_slice rfl rfl rfl rfl slc22 stn_len (by omega) (by omega) (by omega)) ?_
    refine am_w rfl rfl (opB_append rfl rfl rfl (by simp) rfl el22 (sl_len stn_len) (sl_len stn_len) (by simp; omega) (by unfold maxLen; simp; omega)) ⟨_, rfl, rfl⟩ ?_
    first | refine am_s rfl rfl (fun m hm => y_fieldAddr rfl rfl fld24_3) ?_ | refine am_s rfl rfl (fun m hm => y_fieldAddr_pp rfl rfl hm.choose_spec.1 hm.choose_spec.2 fld24_3) ?_
    refine am_w rfl rfl (opB_store rfl rfl rfl rfl rfl rfl (by first | exact cE_v rfl | exact cE_sl rfl | exact cE_ptr rfl | exact cE_agg rfl | exact cE_psl rfl rfl (by simp) | exact cE_mix rfl | exact cE_fn rfl | exact cE_ifc rfl) ty22 (by rfl) (by rfl)) ⟨_, rfl, rfl⟩ ?_
    refine am_nil ?_
    refine qt_normal ?_
    refine ac_seq ?_
    refine ac_weak (weak_frM (mem' := [.row [[I m.wide, I m.rows, I m.slope, .psl 2 m.st.length]], .row [[I m.wide, I m.rows, I m.slope, .pub (.sl (m.st.map eStn))]], .row (X.map eStnE)]) [(3, I (a : Int)), (4, I (b : Int)), (5, .pub (.ptr (eMp m))), (6, .pub (.ptr (eStn s))), (11, .pp 0 1 0 0), (12, .pp 1 1 0 0)] ⟨rfl, rfl, rfl, rfl, rfl, rfl, trivial⟩ (mem_eqD (by simp; omega) (by rw [hX, List.map_append]; exact congr (congrArg HAppend.hAppend (rowsA m.st nn)) (rowsB m.st nn)))) ?_
    refine ac_mix (fun mm => mm[0]? = some (.row [[I m.wide, I m.rows, I m.slope, .psl 2 m.st.length]]) ∧ ∃ rows, mm[2]? = some (.row rows) ∧ rows.length = m.st.length ∧ ∀ r ∈ rows, r.length = 3) (fun k => match k with | 3 => .stable | 4 => .stable | 5 => .stable | 11 => .stable | 12 => .stable | 13 => .stable | 14 => .stable | 17 => .writes | 18 => .stable | 19 => .writes | _ => .here) mixed (by kernel_rfl) rfl (by kernel_rfl) ⟨rfl, _, rfl, by simp [hXl], by first | exact e3 | exact e3s e3 rfl | exact e3s (e3s e3 rfl) rfl⟩ ?_
    first | refine am_h rfl rfl (y_fieldAddr rfl rfl fld24_3) ?_ | refine am_h rfl rfl (y_fieldAddr_pp rfl rfl rfl rfl fld24_3) ?_
    first | refine am_h rfl rfl (y_load1 rfl rfl rfl ty22) ?_ | refine am_h rfl rfl (y_load_pp1 rfl rfl rfl rfl rfl rfl ty22) ?_
    first | refine am_h rfl rfl (y_moveV rfl rfl) ?_ | refine am_h rfl rfl (y_moveP rfl rfl) ?_ | refine am_h rfl rfl (y_moveS rfl rfl) ?_ | refine am_h rfl rfl (y_moveG rfl rfl) ?_
    refine am_s rfl rfl (fun m hm => y_fieldAddr_pp rfl rfl hm.1 rfl fld24_3) ?_
    refine am_s rfl rfl (fun m hm => y_load_pp1 rfl rfl hm.1 rfl rfl rfl ty22) ?_
    first | refine am_s rfl rfl (fun m hm => y_moveV rfl rfl) ?_ | refine am_s rfl rfl (fun m hm => y_moveP rfl rfl) ?_ | refine am_s rfl rfl (fun m hm => y_moveS rfl rfl) ?_ | refine am_s rfl rfl (fun m hm => y_moveG rfl rfl) ?_
    first | refine am_h rfl rfl (y_fieldAddr rfl rfl fld24_3) ?_ | refine am_h rfl rfl (y_fieldAddr_pp rfl rfl rfl rfl fld24_3) ?_
    first | refine am_h rfl rfl (y_load1 rfl rfl rfl ty22) ?_ | refine am_h rfl rfl (y_load_pp1 rfl rfl rfl rfl rfl rfl ty22) ?_
    first | refine am_h rfl rfl (y_moveV rfl rfl) ?_ | refine am_h rfl rfl (y_moveP rfl rfl) ?_ | refine am_h rfl rfl (y_moveS rfl rfl) ?_ | refine am_h rfl rfl (y_moveG rfl rfl) ?_
    refine am_h rfl rfl (y_indexAddr_psl rfl rfl rfl rfl (by simp [hXl]) slc22 (by omega) (by omega) e3) ?_
    refine am_h rfl rfl (y_load_ppA (cs := [_, _, _]) rfl rfl rfl (by simp [hXl]) (x_at hXb) (by exact Nat.le_of_ble_eq_true rfl) rfl ty78) ?_
    refine am_s rfl rfl (fun m hm => y_fieldAddr_pp rfl rfl hm.1 rfl fld24_3) ?_
    refine am_s rfl rfl (fun m hm => y_load_pp1 rfl rfl hm.1 rfl rfl rfl ty22) ?_
    first | refine am_s rfl rfl (fun m hm => y_moveV rfl rfl) ?_ | refine am_s rfl rfl (fun m hm => y_moveP rfl rfl) ?_ | refine am_s rfl rfl (fun m hm => y_moveS rfl rfl) ?_ | refine am_s rfl rfl (fun m hm => y_moveG rfl rfl) ?_
    refine am_s rfl rfl (fun m hm => y_indexAddr_psl rfl rfl rfl hm.2.choose_spec.1 hm.2.choose_spec.2.1 slc22 (by omega) (by omega) hm.2.choose_spec.2.2) ?_
    refine am_h rfl rfl (y_load_ppA (cs := [_, _, _]) rfl rfl rfl (by simp [hXl]) (x_at hXa) (by exact Nat.le_of_ble_eq_true rfl) rfl ty78) ?_
    refine am_h rfl rfl (y_indexAddr_psl rfl rfl rfl rfl (by simp [hXl]) slc22 (by omega) (by omega) e3) ?_
    refine am_w rfl rfl (opB_store rfl rfl rfl rfl (by simp [hXl]) (x_at hXa) (cE_agg rfl) ty78 rfl rfl) ⟨rfl, _, rfl, by simp [hXl], by first | exact e3 | exact e3s e3 rfl | exact e3s (e3s e3 rfl) rfl⟩ ?_
    refine am_s rfl rfl (fun m hm => y_indexAddr_psl rfl rfl rfl hm.2.choose_spec.1 hm.2.choose_spec.2.1 slc22 (by omega) (by omega) hm.2.choose_spec.2.2) ?_
    refine am_w rfl rfl (opB_store rfl rfl rfl rfl (by simp [hXl]) (x_at2 hXb) (cE_agg rfl) ty78 rfl rfl) ⟨rfl, _, rfl, by simp [hXl], by first | exact e3 | exact e3s e3 rfl | exact e3s (e3s e3 rfl) rfl⟩ ?_
    refine am_nil ?_
    refine qt_normal ?_
    refine ac_seq ?_
    refine ac_weak (weak_frM (mem' := [.row [[I m.wide, I m.rows, I m.slope, .psl 2 m.st.length]], .row [[I m.wide, I m.rows, I m.slope, .pub (.sl (m.st.map eStn))]], .row (Y.map eStnE)]) [(5, .pub (.ptr (eMp m))), (6, .pub (.ptr (eStn s))), (11, .pp 0 1 0 0), (12, .pp 1 1 0 0)] ⟨rfl, rfl, rfl, rfl, trivial⟩ (mem_eqE (by rw [hY]; exact swap_rows X a b X[b] X[a]))) ?_
    refine ac_weak weak_hole ?_
    refine ac_mix (fun mm => ∃ rows, mm[1]? = some (.row rows) ∧ rows.length = 1) (fun k => match k with | 0 => .stable | 1 => .stable | 2 => .writes | 3 => .stable | 4 => .stable | 5 => .writes | 6 => .stable | 7 => .writes | _ => .here) mixed (by kernel_rfl) rfl (by kernel_rfl) ⟨_, rfl, rfl⟩ ?_
    first | refine am_s rfl rfl (fun m hm => y_fieldAddr rfl rfl fld24_3) ?_ | refine am_s rfl rfl (fun m hm => y_fieldAddr_pp rfl rfl hm.choose_spec.1 hm.choose_spec.2 fld24_3) ?_
    first | refine am_s rfl rfl (fun m hm => y_load1 rfl rfl rfl ty22) ?_ | refine am_s rfl rfl (fun m hm => y_load_pp1 rfl rfl rfl rfl rfl rfl ty22) ?_
    refine am_w rfl rfl (opB_appendN (l := 3) rfl rfl rfl rfl rfl el22 (sl_len0 stn_len) (by simp; omega) (by unfold maxLen; simp; omega)) ⟨_, rfl, rfl⟩ ?_
    first | refine am_s rfl rfl (fun m hm => y_loadN rfl rfl ty78 (by exact Nat.le_of_ble_eq_true rfl)) ?_ | refine am_s rfl rfl (fun m hm => y_load_ppA (cs := [_, _, _]) rfl rfl rfl rfl rfl (by exact Nat.le_of_ble_eq_true rfl) rfl ty78) ?_ | refine am_s rfl rfl (fun m hm => y_load_ppN rfl rfl rfl rfl rfl (by exact Nat.le_of_ble_eq_true rfl) rfl ty78) ?_
    refine am_s rfl rfl (fun m hm => y_buildSlice (size := 3) (rows := [[_, _, _]]) rfl Tryz.underlying22 ti78 rfl (by decide) rfl (by decide) ⟨_, _, rfl, (by first | exact cE_v rfl | exact cE_sl rfl | exact cE_ptr rfl | exact cE_agg rfl | exact cE_psl rfl rfl (by simp) | exact cE_mix rfl | exact cE_fn rfl | exact cE_ifc rfl), rfl⟩ (by rfl) (by simp [ofV]) rfl (by simp)) ?_
    refine am_w rfl rfl (opB_append rfl rfl rfl (by simp) rfl el22 (sl_len0 stn_len) (fun r hr => by simp at hr; subst hr; rfl) (by simp; omega) (by unfold maxLen; simp; omega)) ⟨_, rfl, rfl⟩ ?_
    first | refine am_s rfl rfl (fun m hm => y_fieldAddr rfl rfl fld24_3) ?_ | refine am_s rfl rfl (fun m hm => y_fieldAddr_pp rfl rfl hm.choose_spec.1 hm.choose_spec.2 fld24_3) ?_
    refine am_w rfl rfl (opB_store rfl rfl rfl rfl rfl rfl (by first | exact cE_v rfl | exact cE_sl rfl | exact cE_ptr rfl | exact cE_agg rfl | exact cE_psl rfl rfl (by simp) | exact cE_mix rfl | exact cE_fn rfl | exact cE_ifc rfl) ty22 (by rfl) (by rfl)) ⟨_, rfl, rfl⟩ ?_
    refine am_nil ?_
    refine qt_normal ?_
    refine ac_seq ?_
    refine ac_weak (weak_frM (mem' := [.row [[I m.wide, I m.rows, I m.slope, .psl 2 m.st.length]], .row [[I m.wide, I m.rows, I m.slope, .psl 3 (m.st.length + 1)]], .row (Y.map eStnE), .row ((m.st ++ [s]).map eStnE)]) [(5, .pub (.ptr (eMp m))), (6, .pub (.ptr (eStn s))), (11, .pp 0 1 0 0), (12, .pp 1 1 0 0)] ⟨rfl, rfl, rfl, rfl, trivial⟩ (mem_eqF (by simp) (by rw [List.map_append]; exact congr (congrArg HAppend.hAppend (eStnE_pub m.st)) rfl))) ?_
    refine ac_weak (weak_pubc (k := 2) (c := 0) (i := 0) (j := 3) (rows := Y.map eStn) (by rw [eStnE_pub]; rfl) (by simp [hYl]) rfl rfl rfl rfl) ?_
    refine ac_weak (weak_pubc (k := 3) (c := 1) (i := 0) (j := 3) (rows := (m.st ++ [s]).map eStn) (by rw [eStnE_pub]; rfl) (by simp) rfl rfl rfl rfl) ?_
    refine ac_region ?_
    first | refine al_y rfl rfl (y_loadN rfl rfl ty24 (by exact Nat.le_of_ble_eq_true rfl)) ?_ | refine al_y rfl rfl (y_load_ppA (cs := [_, _, _, _]) rfl rfl rfl rfl rfl (by exact Nat.le_of_ble_eq_true rfl) rfl ty24) ?_ | refine al_y rfl rfl (y_load_ppN rfl rfl rfl rfl rfl (by exact Nat.le_of_ble_eq_true rfl) rfl ty24) ?_
    refine al_y rfl rfl (y_callF (av := [_]) rfl ⟨rfl, trivial⟩ (by first | exact h50m | exact h50x | exact h50y)) ?_
    first | refine al_y rfl rfl (y_moveV rfl rfl) ?_ | refine al_y rfl rfl (y_moveP rfl rfl) ?_ | refine al_y rfl rfl (y_moveS rfl rfl) ?_ | refine al_y rfl rfl (y_moveG rfl rfl) ?_
    refine al_y rfl rfl (y_extract rfl rfl rfl) ?_
    refine al_y rfl rfl (y_extract rfl rfl rfl) ?_
    first | refine al_y rfl rfl (y_assignV rfl rfl) ?_ | refine al_y rfl rfl (y_assignP rfl rfl) ?_ | refine al_y rfl rfl (y_assignS rfl rfl) ?_ | refine al_y rfl rfl (y_assignG rfl rfl) ?_
    first | refine al_y rfl rfl (y_assignV rfl rfl) ?_ | refine al_y rfl rfl (y_assignP rfl rfl) ?_ | refine al_y rfl rfl (y_assignS rfl rfl) ?_ | refine al_y rfl rfl (y_assignG rfl rfl) ?_
    refine al_nil ?_
    refine qt_normal ?_
    refine ac_seq ?_
    refine ac_region ?_
    first | refine al_y rfl rfl (y_loadN rfl rfl ty24 (by exact Nat.le_of_ble_eq_true rfl)) ?_ | refine al_y rfl rfl (y_load_ppA (cs := [_, _, _, _]) rfl rfl rfl rfl rfl (by exact Nat.le_of_ble_eq_true rfl) rfl ty24) ?_ | refine al_y rfl rfl (y_load_ppN rfl rfl rfl rfl rfl (by exact Nat.le_of_ble_eq_true rfl) rfl ty24) ?_
    refine al_y rfl rfl (y_callF (av := [_]) rfl ⟨rfl, trivial⟩ (by first | exact h50m | exact h50x | exact h50y)) ?_
    first | refine al_y rfl rfl (y_moveV rfl rfl) ?_ | refine al_y rfl rfl (y_moveP rfl rfl) ?_ | refine al_y rfl rfl (y_moveS rfl rfl) ?_ | refine al_y rfl rfl (y_moveG rfl rfl) ?_
    refine al_y rfl rfl (y_extract rfl rfl rfl) ?_
    refine al_y rfl rfl (y_extract rfl rfl rfl) ?_
    first | refine al_y rfl rfl (y_assignV rfl rfl) ?_ | refine al_y rfl rfl (y_assignP rfl rfl) ?_ | refine al_y rfl rfl (y_assignS rfl rfl) ?_ | refine al_y rfl rfl (y_assignG rfl rfl) ?_
    first | refine al_y rfl rfl (y_assignV rfl rfl) ?_ | refine al_y rfl rfl (y_assignP rfl rfl) ?_ | refine al_y rfl rfl (y_assignS rfl rfl) ?_ | refine al_y rfl rfl (y_assignG rfl rfl) ?_
    refine al_nil ?_
    refine qt_normal ?_
    refine ac_seq ?_
    refine ac_region ?_
    first | refine al_y rfl rfl (y_loadN rfl rfl ty24 (by exact Nat.le_of_ble_eq_true rfl)) ?_ | refine al_y rfl rfl (y_load_ppA (cs := [_, _, _, _]) rfl rfl rfl rfl rfl (by exact Nat.le_of_ble_eq_true rfl) rfl ty24) ?_ | refine al_y rfl rfl (y_load_ppN rfl rfl rfl rfl rfl (by exact Nat.le_of_ble_eq_true rfl) rfl ty24) ?_
    refine al_y rfl rfl (y_callF (av := [_]) rfl ⟨rfl, trivial⟩ (by first | exact h22m | exact h22x)) ?_
    first | refine al_y rfl rfl (y_moveV rfl rfl) ?_ | refine al_y rfl rfl (y_moveP rfl rfl) ?_ | refine al_y rfl rfl (y_moveS rfl rfl) ?_ | refine al_y rfl rfl (y_moveG rfl rfl) ?_
    refine al_y rfl rfl (y_extract rfl rfl rfl) ?_
    refine al_y rfl rfl (y_extract rfl rfl rfl) ?_
    refine al_pair  rfl rfl rfl rfl rfl rfl rfl zv29 ty29 rfl (by rfl) (cE_agg rfl) rfl ?_
    first | refine al_y rfl rfl (y_assignV rfl rfl) ?_ | refine al_y rfl rfl (y_assignP rfl rfl) ?_ | refine al_y rfl rfl (y_assignS rfl rfl) ?_ | refine al_y rfl rfl (y_assignG rfl rfl) ?_
    refine al_nil ?_
    refine qt_normal ?_
    refine ac_seq ?_
    refine ac_region ?_
    first | refine al_y rfl rfl (y_loadN rfl rfl ty24 (by exact Nat.le_of_ble_eq_true rfl)) ?_ | refine al_y rfl rfl (y_load_ppA (cs := [_, _, _, _]) rfl rfl rfl rfl rfl (by exact Nat.le_of_ble_eq_true rfl) rfl ty24) ?_ | refine al_y rfl rfl (y_load_ppN rfl rfl rfl rfl rfl (by exact Nat.le_of_ble_eq_true rfl) rfl ty24) ?_
    refine al_y rfl rfl (y_callF (av := [_]) rfl ⟨rfl, trivial⟩ (by first | exact h22m | exact h22x)) ?_
    first | refine al_y rfl rfl (y_moveV rfl rfl) ?_ | refine al_y rfl rfl (y_moveP rfl rfl) ?_ | refine al_y rfl rfl (y_moveS rfl rfl) ?_ | refine al_y rfl rfl (y_moveG rfl rfl) ?_
    refine al_y rfl rfl (y_extract rfl rfl rfl) ?_
    refine al_y rfl rfl (y_extract rfl rfl rfl) ?_
    refine al_pair  rfl rfl rfl rfl rfl rfl rfl zv29 ty29 rfl (by rfl) (cE_agg rfl) rfl ?_
    first | refine al_y rfl rfl (y_assignV rfl rfl) ?_ | refine al_y rfl rfl (y_assignP rfl rfl) ?_ | refine al_y rfl rfl (y_assignS rfl rfl) ?_ | refine al_y rfl rfl (y_assignG rfl rfl) ?_
    refine al_nil ?_
    refine qt_normal ?_
    refine ac_seq ?_
    refine ac_seq ?_
    refine ac_region ?_
    first | refine al_y rfl rfl (y_moveV rfl rfl) ?_ | refine al_y rfl rfl (y_moveP rfl rfl) ?_ | refine al_y rfl rfl (y_moveS rfl rfl) ?_ | refine al_y rfl rfl (y_moveG rfl rfl) ?_
    first | refine al_y rfl rfl (y_moveV rfl rfl) ?_ | refine al_y rfl rfl (y_moveP rfl rfl) ?_ | refine al_y rfl rfl (y_moveS rfl rfl) ?_ | refine al_y rfl rfl (y_moveG rfl rfl) ?_
    refine al_y rfl rfl (y_neq rfl rfl rfl) ?_
    first | refine al_y rfl rfl (y_moveV rfl rfl) ?_ | refine al_y rfl rfl (y_moveP rfl rfl) ?_ | refine al_y rfl rfl (y_moveS rfl rfl) ?_ | refine al_y rfl rfl (y_moveG rfl rfl) ?_
    first | refine al_maybe rfl rfl rfl (fun hg => y_moveV rfl rfl) ?_ | refine al_maybe rfl rfl rfl (fun hg => y_moveP rfl rfl) ?_ | refine al_maybe rfl rfl rfl (fun hg => y_moveS rfl rfl) ?_ | refine al_maybe rfl rfl rfl (fun hg => y_moveG rfl rfl) ?_ | refine al_maybe (x := .pub (.tup [])) rfl rfl rfl (fun hg => absurd hg (by decide)) ?_
    first | refine al_maybe rfl rfl rfl (fun hg => y_moveV rfl rfl) ?_ | refine al_maybe rfl rfl rfl (fun hg => y_moveP rfl rfl) ?_ | refine al_maybe rfl rfl rfl (fun hg => y_moveS rfl rfl) ?_ | refine al_maybe rfl rfl rfl (fun hg => y_moveG rfl rfl) ?_ | refine al_maybe (x := .pub (.tup [])) rfl rfl rfl (fun hg => absurd hg (by decide)) ?_
    first | refine al_maybe rfl rfl rfl (fun hg => y_neq rfl (by first | exact rfl | exact if_pos hg) (by first | exact rfl | exact if_pos hg)) ?_ | refine al_maybe rfl rfl rfl (fun hg => y_neq rfl rfl rfl) ?_ | refine al_maybe (x := .pub (.tup [])) rfl rfl rfl (fun hg => absurd hg (by decide)) ?_
    first | refine al_y rfl rfl (y_and rfl rfl rfl rfl) ?_ | refine al_y rfl rfl (y_or rfl rfl rfl rfl) ?_ | refine al_y rfl rfl (y_pick rfl rfl (fun _ => rfl) (fun _ => rfl)) ?_
    first | refine al_y rfl rfl (y_moveV rfl rfl) ?_ | refine al_y rfl rfl (y_moveP rfl rfl) ?_ | refine al_y rfl rfl (y_moveS rfl rfl) ?_ | refine al_y rfl rfl (y_moveG rfl rfl) ?_
    first | refine al_maybe rfl rfl rfl (fun hg => y_moveV rfl rfl) ?_ | refine al_maybe rfl rfl rfl (fun hg => y_moveP rfl rfl) ?_ | refine al_maybe rfl rfl rfl (fun hg => y_moveS rfl rfl) ?_ | refine al_maybe rfl rfl rfl (fun hg => y_moveG rfl rfl) ?_ | refine al_maybe (x := .pub (.tup [])) rfl rfl rfl (fun hg => absurd hg (by decide)) ?_
    first | refine al_maybe rfl rfl rfl (fun hg => y_moveV rfl rfl) ?_ | refine al_maybe rfl rfl rfl (fun hg => y_moveP rfl rfl) ?_ | refine al_maybe rfl rfl rfl (fun hg => y_moveS rfl rfl) ?_ | refine al_maybe rfl rfl rfl (fun hg => y_moveG rfl rfl) ?_ | refine al_maybe (x := .pub (.tup [])) rfl rfl rfl (fun hg => absurd hg (by decide)) ?_
    first | refine al_maybe rfl rfl rfl (fun hg => y_neq rfl (by first | exact rfl | exact if_pos hg) (by first | exact rfl | exact if_pos hg)) ?_ | refine al_maybe rfl rfl rfl (fun hg => y_neq rfl rfl rfl) ?_ | refine al_maybe (x := .pub (.tup [])) rfl rfl rfl (fun hg => absurd hg (by decide)) ?_
    first | refine al_y rfl rfl (y_and rfl rfl rfl rfl) ?_ | refine al_y rfl rfl (y_or rfl rfl rfl rfl) ?_ | refine al_y rfl rfl (y_pick rfl rfl (fun _ => rfl) (fun _ => rfl)) ?_
    first | refine al_y rfl rfl (y_moveV rfl rfl) ?_ | refine al_y rfl rfl (y_moveP rfl rfl) ?_ | refine al_y rfl rfl (y_moveS rfl rfl) ?_ | refine al_y rfl rfl (y_moveG rfl rfl) ?_
    first | refine al_maybe rfl rfl rfl (fun hg => y_moveV rfl rfl) ?_ | refine al_maybe rfl rfl rfl (fun hg => y_moveP rfl rfl) ?_ | refine al_maybe rfl rfl rfl (fun hg => y_moveS rfl rfl) ?_ | refine al_maybe rfl rfl rfl (fun hg => y_moveG rfl rfl) ?_ | refine al_maybe (x := .pub (.tup [])) rfl rfl rfl (fun hg => absurd hg (by decide)) ?_
    first | refine al_maybe rfl rfl rfl (fun hg => y_moveV rfl rfl) ?_ | refine al_maybe rfl rfl rfl (fun hg => y_moveP rfl rfl) ?_ | refine al_maybe rfl rfl rfl (fun hg => y_moveS rfl rfl) ?_ | refine al_maybe rfl rfl rfl (fun hg => y_moveG rfl rfl) ?_ | refine al_maybe (x := .pub (.tup [])) rfl rfl rfl (fun hg => absurd hg (by decide)) ?_
    first | refine al_maybe rfl rfl rfl (fun hg => y_callF (av := [_, _]) rfl ⟨(by first | exact (if_pos hg) | exact rfl), (by first | exact (if_pos hg) | exact rfl), trivial⟩ (f51 la hla)) ?_ | refine al_maybe rfl rfl rfl (fun hg => y_callF (av := [_, _]) rfl ⟨(by first | exact rfl | exact rfl), (by first | exact rfl | exact rfl), trivial⟩ (f51 la hla)) ?_ | refine al_maybe (x := .pub (.tup [])) rfl rfl rfl (fun hg => absurd hg (by decide)) ?_
    first | refine al_maybe rfl rfl rfl (fun hg => y_not rfl (by first | exact rfl | exact if_pos hg)) ?_ | refine al_maybe rfl rfl rfl (fun hg => y_not rfl rfl) ?_ | refine al_maybe (x := .pub (.tup [])) rfl rfl rfl (fun hg => absurd hg (by decide)) ?_
    first | refine al_y rfl rfl (y_and rfl rfl rfl rfl) ?_ | refine al_y rfl rfl (y_or rfl rfl rfl rfl) ?_ | refine al_y rfl rfl (y_pick rfl rfl (fun _ => rfl) (fun _ => rfl)) ?_
    first | refine al_y rfl rfl (y_moveV rfl rfl) ?_ | refine al_y rfl rfl (y_moveP rfl rfl) ?_ | refine al_y rfl rfl (y_moveS rfl rfl) ?_ | refine al_y rfl rfl (y_moveG rfl rfl) ?_
    first | refine al_maybe rfl rfl rfl (fun hg => y_loadN rfl rfl ty29 (by exact Nat.le_of_ble_eq_true rfl)) ?_ | refine al_maybe rfl rfl rfl (fun hg => y_load_ppA (cs := [_, _]) rfl rfl rfl rfl rfl (by exact Nat.le_of_ble_eq_true rfl) rfl ty29) ?_ | refine al_maybe rfl rfl rfl (fun hg => y_load_ppN rfl rfl rfl rfl rfl (by exact Nat.le_of_ble_eq_true rfl) rfl ty29) ?_ | refine al_maybe (x := .pub (.tup [])) rfl rfl rfl (fun hg => absurd hg (by decide)) ?_
    first | refine al_maybe rfl rfl rfl (fun hg => y_loadN rfl rfl ty29 (by exact Nat.le_of_ble_eq_true rfl)) ?_ | refine al_maybe rfl rfl rfl (fun hg => y_load_ppA (cs := [_, _]) rfl rfl rfl rfl rfl (by exact Nat.le_of_ble_eq_true rfl) rfl ty29) ?_ | refine al_maybe rfl rfl rfl (fun hg => y_load_ppN rfl rfl rfl rfl rfl (by exact Nat.le_of_ble_eq_true rfl) rfl ty29) ?_ | refine al_maybe (x := .pub (.tup [])) rfl rfl rfl (fun hg => absurd hg (by decide)) ?_
    first | refine al_maybe rfl rfl rfl (fun hg => y_callF (av := [_, _]) rfl ⟨(by first | exact (if_pos hg) | exact rfl), (by first | exact (if_pos hg) | exact rfl), trivial⟩ (f24 fm fm hfm hfm)) ?_ | refine al_maybe rfl rfl rfl (fun hg => y_callF (av := [_, _]) rfl ⟨(by first | exact rfl | exact rfl), (by first | exact rfl | exact rfl), trivial⟩ (f24 fm fm hfm hfm)) ?_ | refine al_maybe (x := .pub (.tup [])) rfl rfl rfl (fun hg => absurd hg (by decide)) ?_
    first | refine al_maybe rfl rfl rfl (fun hg => y_not rfl (by first | exact rfl | exact if_pos hg)) ?_ | refine al_maybe rfl rfl rfl (fun hg => y_not rfl rfl) ?_ | refine al_maybe (x := .pub (.tup [])) rfl rfl rfl (fun hg => absurd hg (by decide)) ?_
    first | refine al_y rfl rfl (y_and rfl rfl rfl rfl) ?_ | refine al_y rfl rfl (y_or rfl rfl rfl rfl) ?_ | refine al_y rfl rfl (y_pick rfl rfl (fun _ => rfl) (fun _ => rfl)) ?_
    refine al_nil ?_
    refine qt_normal ?_
    refine ac_cond rfl (fun h1 => ?_) (fun h1 => ?_)
    · skip
      exfalso; simp [sameF_refl] at h1
    · skip
      refine ac_skip ?_
      refine qt_normal ?_
      refine ac_seq ?_
      refine ac_seq ?_
      refine ac_region ?_
      first | refine al_y rfl rfl (y_loadN rfl rfl ty24 (by exact Nat.le_of_ble_eq_true rfl)) ?_ | refine al_y rfl rfl (y_load_ppA (cs := [_, _, _, _]) rfl rfl rfl rfl rfl (by exact Nat.le_of_ble_eq_true rfl) rfl ty24) ?_ | refine al_y rfl rfl (y_load_ppN rfl rfl rfl rfl rfl (by exact Nat.le_of_ble_eq_true rfl) rfl ty24) ?_
      refine al_y rfl rfl (y_callF (av := [_]) rfl ⟨rfl, trivial⟩ (by first | exact f40 m | exact f40 (withS m (m.st ++ [s])))) ?_
      refine al_y rfl rfl (y_not rfl rfl) ?_
      refine al_nil ?_
      refine qt_normal ?_
      refine ac_cond rfl (fun h2 => ?_) (fun h2 => ?_)
      · skip
        refine ac_seq ?_
        refine ac_region ?_
        refine al_y rfl rfl (y_callF (av := []) rfl trivial hkn) ?_
        first | refine al_y rfl rfl (y_assignV rfl rfl) ?_ | refine al_y rfl rfl (y_assignP rfl rfl) ?_ | refine al_y rfl rfl (y_assignS rfl rfl) ?_ | refine al_y rfl rfl (y_assignG rfl rfl) ?_
        refine al_nil ?_
        refine qt_normal ?_
        refine ac_ret ?_
        refine qt_ret ?_
        exact ⟨.inr rfl, AVle.refl _⟩
      · skip
        refine Exists.elim (hy (by simpa using h2)) fun ly hz => Exists.elim hz fun Ey hz2 => ?_
        have h50y := hz2.1
        have hly := hz2.2.1
        have hE := hz2.2.2
        refine ac_skip ?_
        refine qt_normal ?_
        refine ac_seq ?_
        refine ac_region ?_
        first | refine al_y rfl rfl (y_loadN rfl rfl ty24 (by exact Nat.le_of_ble_eq_true rfl)) ?_ | refine al_y rfl rfl (y_load_ppA (cs := [_, _, _, _]) rfl rfl rfl rfl rfl (by exact Nat.le_of_ble_eq_true rfl) rfl ty24) ?_ | refine al_y rfl rfl (y_load_ppN rfl rfl rfl rfl rfl (by exact Nat.le_of_ble_eq_true rfl) rfl ty24) ?_
        refine al_y rfl rfl (y_callF (av := [_]) rfl ⟨rfl, trivial⟩ (by first | exact h50m | exact h50x | exact h50y)) ?_
        first | refine al_y rfl rfl (y_moveV rfl rfl) ?_ | refine al_y rfl rfl (y_moveP rfl rfl) ?_ | refine al_y rfl rfl (y_moveS rfl rfl) ?_ | refine al_y rfl rfl (y_moveG rfl rfl) ?_
        refine al_y rfl rfl (y_extract rfl rfl rfl) ?_
        refine al_y rfl rfl (y_extract rfl rfl rfl) ?_
        first | refine al_y rfl rfl (y_assignV rfl rfl) ?_ | refine al_y rfl rfl (y_assignP rfl rfl) ?_ | refine al_y rfl rfl (y_assignS rfl rfl) ?_ | refine al_y rfl rfl (y_assignG rfl rfl) ?_
        first | refine al_y rfl rfl (y_assignV rfl rfl) ?_ | refine al_y rfl rfl (y_assignP rfl rfl) ?_ | refine al_y rfl rfl (y_assignS rfl rfl) ?_ | refine al_y rfl rfl (y_assignG rfl rfl) ?_
        refine al_nil ?_
        refine qt_normal ?_
        refine ac_seq ?_
        refine ac_seq ?_
        refine ac_region ?_
        first | refine al_y rfl rfl (y_moveV rfl rfl) ?_ | refine al_y rfl rfl (y_moveP rfl rfl) ?_ | refine al_y rfl rfl (y_moveS rfl rfl) ?_ | refine al_y rfl rfl (y_moveG rfl rfl) ?_
        refine al_y rfl rfl (y_neq rfl rfl rfl) ?_
        refine al_nil ?_
        refine qt_normal ?_
        refine ac_cond rfl (fun h3 => ?_) (fun h3 => ?_)
        · skip
          have hE7 : Ey = 7 := by rcases hE with h | h; exact h; exfalso; simp [h.1] at h3
          refine ac_seq ?_
          refine ac_region ?_
          first | refine al_y rfl rfl (y_moveV rfl rfl) ?_ | refine al_y rfl rfl (y_moveP rfl rfl) ?_ | refine al_y rfl rfl (y_moveS rfl rfl) ?_ | refine al_y rfl rfl (y_moveG rfl rfl) ?_
          refine al_y rfl rfl (y_eql rfl rfl rfl) ?_
          first | refine al_y rfl rfl (y_moveV rfl rfl) ?_ | refine al_y rfl rfl (y_moveP rfl rfl) ?_ | refine al_y rfl rfl (y_moveS rfl rfl) ?_ | refine al_y rfl rfl (y_moveG rfl rfl) ?_
          first | refine al_maybe rfl rfl rfl (fun hg => y_callF (av := []) rfl trivial hkn) ?_ | refine al_maybe (x := .pub (.tup [])) rfl rfl rfl (fun hg => absurd hg (by decide)) ?_
          first | refine al_y rfl rfl (y_and rfl rfl rfl rfl) ?_ | refine al_y rfl rfl (y_or rfl rfl rfl rfl) ?_ | refine al_y rfl rfl (y_pick rfl rfl (fun _ => rfl) (fun _ => rfl)) ?_
          first | refine al_y rfl rfl (y_assignV rfl rfl) ?_ | refine al_y rfl rfl (y_assignP rfl rfl) ?_ | refine al_y rfl rfl (y_assignS rfl rfl) ?_ | refine al_y rfl rfl (y_assignG rfl rfl) ?_
          refine al_nil ?_
          refine qt_normal ?_
          refine ac_ret ?_
          refine qt_ret ?_
          exact ⟨.inr rfl, AVle.of (by simp [hE7])⟩
        · skip
          have hE0 : Ey = 0 := by simpa using h3
          have hr := hE.resolve_left (by omega)
          have hEm := hr.2.1
          have hll := hr.2.2.1
          have hbb := hr.2.2.2
          refine ac_skip ?_
          refine qt_normal ?_
          refine ac_seq ?_
          refine ac_seq ?_
          refine ac_region ?_
          first | refine al_y rfl rfl (y_moveV rfl rfl) ?_ | refine al_y rfl rfl (y_moveP rfl rfl) ?_ | refine al_y rfl rfl (y_moveS rfl rfl) ?_ | refine al_y rfl rfl (y_moveG rfl rfl) ?_
          refine al_y rfl rfl (y_neq rfl rfl rfl) ?_
          first | refine al_y rfl rfl (y_moveV rfl rfl) ?_ | refine al_y rfl rfl (y_moveP rfl rfl) ?_ | refine al_y rfl rfl (y_moveS rfl rfl) ?_ | refine al_y rfl rfl (y_moveG rfl rfl) ?_
          first | refine al_maybe rfl rfl rfl (fun hg => y_moveV rfl rfl) ?_ | refine al_maybe rfl rfl rfl (fun hg => y_moveP rfl rfl) ?_ | refine al_maybe rfl rfl rfl (fun hg => y_moveS rfl rfl) ?_ | refine al_maybe rfl rfl rfl (fun hg => y_moveG rfl rfl) ?_ | refine al_maybe (x := .pub (.tup [])) rfl rfl rfl (fun hg => absurd hg (by decide)) ?_
          first | refine al_maybe rfl rfl rfl (fun hg => y_len rfl rfl (by first | exact rfl | exact if_pos hg) Tryz.underlying79) ?_ | refine al_maybe rfl rfl rfl (fun hg => y_len_psl rfl (by first | exact rfl | exact if_pos hg) rfl (by simp) Tryz.underlying79) ?_ | refine al_maybe rfl rfl rfl (fun hg => y_len_nil rfl (by first | exact rfl | exact if_pos hg) Tryz.underlying79) ?_ | refine al_maybe rfl rfl rfl (fun hg => y_len rfl rfl rfl Tryz.underlying79) ?_ | refine al_maybe rfl rfl rfl (fun hg => y_len_psl rfl rfl rfl (by simp) Tryz.underlying79) ?_ | refine al_maybe rfl rfl rfl (fun hg => y_len_nil rfl rfl Tryz.underlying79) ?_ | refine al_maybe (x := .pub (.tup [])) rfl rfl rfl (fun hg => absurd hg (by decide)) ?_
          first | refine al_maybe rfl rfl rfl (fun hg => y_moveV rfl rfl) ?_ | refine al_maybe rfl rfl rfl (fun hg => y_moveP rfl rfl) ?_ | refine al_maybe rfl rfl rfl (fun hg => y_moveS rfl rfl) ?_ | refine al_maybe rfl rfl rfl (fun hg => y_moveG rfl rfl) ?_ | refine al_maybe (x := .pub (.tup [])) rfl rfl rfl (fun hg => absurd hg (by decide)) ?_
          first | refine al_maybe rfl rfl rfl (fun hg => y_len rfl rfl (by first | exact rfl | exact if_pos hg) Tryz.underlying79) ?_ | refine al_maybe rfl rfl rfl (fun hg => y_len_psl rfl (by first | exact rfl | exact if_pos hg) rfl (by simp) Tryz.underlying79) ?_ | refine al_maybe rfl rfl rfl (fun hg => y_len_nil rfl (by first | exact rfl | exact if_pos hg) Tryz.underlying79) ?_ | refine al_maybe rfl rfl rfl (fun hg => y_len rfl rfl rfl Tryz.underlying79) ?_ | refine al_maybe rfl rfl rfl (fun hg => y_len_psl rfl rfl rfl (by simp) Tryz.underlying79) ?_ | refine al_maybe rfl rfl rfl (fun hg => y_len_nil rfl rfl Tryz.underlying79) ?_ | refine al_maybe (x := .pub (.tup [])) rfl rfl rfl (fun hg => absurd hg (by decide)) ?_
          first | refine al_maybe rfl rfl rfl (fun hg => y_neq rfl (by first | exact rfl | exact if_pos hg) (by first | exact rfl | exact if_pos hg)) ?_ | refine al_maybe rfl rfl rfl (fun hg => y_neq rfl rfl rfl) ?_ | refine al_maybe (x := .pub (.tup [])) rfl rfl rfl (fun hg => absurd hg (by decide)) ?_
          first | refine al_y rfl rfl (y_and rfl rfl rfl rfl) ?_ | refine al_y rfl rfl (y_or rfl rfl rfl rfl) ?_ | refine al_y rfl rfl (y_pick rfl rfl (fun _ => rfl) (fun _ => rfl)) ?_
          refine al_nil ?_
          refine qt_normal ?_
          refine ac_cond rfl (fun h4 => ?_) (fun h4 => ?_)
          · skip
            exfalso; simp [hEm, hll, eSpans] at h4
          · skip
            refine ac_skip ?_
            refine qt_normal ?_
            refine ac_seq ?_
            refine ac_seq ?_
            refine ac_region ?_
            first | refine al_y rfl rfl (y_assignV rfl rfl) ?_ | refine al_y rfl rfl (y_assignP rfl rfl) ?_ | refine al_y rfl rfl (y_assignS rfl rfl) ?_ | refine al_y rfl rfl (y_assignG rfl rfl) ?_
            refine al_nil ?_
            refine qt_normal ?_
            refine ac_block ?_
            refine ac_loop (ι := { k : Nat // k ≤ ly.length }) (fun k => ⟨Tryz.f11.ntmps, frL [(14, .pub (eSpans la)), (22, .pub (eSpans ly)), (24, I (k.1 : Int))], [.row [[I m.wide, I m.rows, I m.slope, .pub (.sl (Y.map eStn))]], .row [[I m.wide, I m.rows, I m.slope, .pub (.sl ((m.st ++ [s]).map eStn))]], .dead, .dead]⟩) (fun k => ly.length - k.1) (⟨0, by omega⟩) ?_ ?_
            · exact weak_frM _ ⟨rfl, rfl, rfl, trivial⟩ (rfl)
            · rintro ⟨k, hk⟩
              dsimp only
              refine ac_seq ?_
              refine ac_seq ?_
              refine ac_region ?_
              first | refine al_y rfl rfl (y_moveV rfl rfl) ?_ | refine al_y rfl rfl (y_moveP rfl rfl) ?_ | refine al_y rfl rfl (y_moveS rfl rfl) ?_ | refine al_y rfl rfl (y_moveG rfl rfl) ?_
              first | refine al_y rfl rfl (y_moveV rfl rfl) ?_ | refine al_y rfl rfl (y_moveP rfl rfl) ?_ | refine al_y rfl rfl (y_moveS rfl rfl) ?_ | refine al_y rfl rfl (y_moveG rfl rfl) ?_
              first | refine al_y rfl rfl (y_len rfl rfl rfl Tryz.underlying79) ?_ | refine al_y rfl rfl (y_len_psl rfl rfl rfl (by simp) Tryz.underlying79) ?_ | refine al_y rfl rfl (y_len_nil rfl rfl Tryz.underlying79) ?_
              refine al_y rfl rfl (y_lss rfl rfl rfl) ?_
              refine al_nil ?_
              refine qt_normal ?_
              refine ac_cond rfl (fun h5 => ?_) (fun h5 => ?_)
              · skip
                have hlt : k < ly.length := by simpa using h5
                have hlt2 : k < la.length := by omega
                have hbk := hbb k hlt hlt2
                refine ac_skip ?_
                refine qt_normal ?_
                refine ac_seq ?_
                refine ac_block ?_
                refine ac_seq ?_
                refine ac_draw mixed (by kernel_rfl) rfl ?_
                first | refine aq_y rfl (y_moveV rfl rfl) ?_ | refine aq_y rfl (y_moveP rfl rfl) ?_ | refine aq_y rfl (y_moveS rfl rfl) ?_ | refine aq_y rfl (y_moveG rfl rfl) ?_
                first | refine aq_y rfl (y_moveV rfl rfl) ?_ | refine aq_y rfl (y_moveP rfl rfl) ?_ | refine aq_y rfl (y_moveS rfl rfl) ?_ | refine aq_y rfl (y_moveG rfl rfl) ?_
                first | refine aq_y rfl (y_indexAddr rfl rfl rfl slc79 (by omega) (span_at hlt) span_len) ?_ | refine aq_y rfl (y_indexAddr_psl rfl rfl rfl rfl rfl slc79 (by omega) (span_at hlt) span_len) ?_
                first | refine aq_y rfl (y_fieldAddr rfl rfl fld76_0) ?_ | refine aq_y rfl (y_fieldAddr_pp rfl rfl rfl rfl fld76_0) ?_
                first | refine aq_y rfl (y_load1 rfl rfl rfl ty3) ?_ | refine aq_y rfl (y_load_pp1 rfl rfl rfl rfl rfl rfl ty3) ?_
                first | refine aq_y rfl (y_moveV rfl rfl) ?_ | refine aq_y rfl (y_moveP rfl rfl) ?_ | refine aq_y rfl (y_moveS rfl rfl) ?_ | refine aq_y rfl (y_moveG rfl rfl) ?_
                first | refine aq_y rfl (y_moveV rfl rfl) ?_ | refine aq_y rfl (y_moveP rfl rfl) ?_ | refine aq_y rfl (y_moveS rfl rfl) ?_ | refine aq_y rfl (y_moveG rfl rfl) ?_
                first | refine aq_y rfl (y_indexAddr rfl rfl rfl slc79 (by omega) (span_at hlt2) span_len) ?_ | refine aq_y rfl (y_indexAddr_psl rfl rfl rfl rfl rfl slc79 (by omega) (span_at hlt2) span_len) ?_
                first | refine aq_y rfl (y_fieldAddr rfl rfl fld76_0) ?_ | refine aq_y rfl (y_fieldAddr_pp rfl rfl rfl rfl fld76_0) ?_
                first | refine aq_y rfl (y_load1 rfl rfl rfl ty3) ?_ | refine aq_y rfl (y_load_pp1 rfl rfl rfl rfl rfl rfl ty3) ?_
                refine aq_y rfl (y_lss rfl rfl rfl) ?_
                first | refine aq_y rfl (y_moveV rfl rfl) ?_ | refine aq_y rfl (y_moveP rfl rfl) ?_ | refine aq_y rfl (y_moveS rfl rfl) ?_ | refine aq_y rfl (y_moveG rfl rfl) ?_
                first | refine aq_maybe rfl (fun hg => y_moveV rfl rfl) ?_ | refine aq_maybe rfl (fun hg => y_moveP rfl rfl) ?_ | refine aq_maybe rfl (fun hg => y_moveS rfl rfl) ?_ | refine aq_maybe rfl (fun hg => y_moveG rfl rfl) ?_ | refine aq_maybe (x := .pub (.tup [])) rfl (fun hg => absurd hg (by decide)) ?_
                first | refine aq_maybe rfl (fun hg => y_moveV rfl rfl) ?_ | refine aq_maybe rfl (fun hg => y_moveP rfl rfl) ?_ | refine aq_maybe rfl (fun hg => y_moveS rfl rfl) ?_ | refine aq_maybe rfl (fun hg => y_moveG rfl rfl) ?_ | refine aq_maybe (x := .pub (.tup [])) rfl (fun hg => absurd hg (by decide)) ?_
                first | refine aq_maybe rfl (fun hg => y_indexAddr rfl (by first | exact rfl | exact if_pos hg) (by first | exact rfl | exact if_pos hg) slc79 (by omega) (span_at hlt) span_len) ?_ | refine aq_maybe rfl (fun hg => y_indexAddr_psl rfl (by first | exact rfl | exact if_pos hg) (by first | exact rfl | exact if_pos hg) rfl rfl slc79 (by omega) (span_at hlt) span_len) ?_ | refine aq_maybe rfl (fun hg => y_indexAddr rfl rfl rfl slc79 (by omega) (span_at hlt) span_len) ?_ | refine aq_maybe rfl (fun hg => y_indexAddr_psl rfl rfl rfl rfl rfl slc79 (by omega) (span_at hlt) span_len) ?_ | refine aq_maybe (x := .pub (.tup [])) rfl (fun hg => absurd hg (by decide)) ?_
                first | refine aq_maybe rfl (fun hg => y_fieldAddr rfl (by first | exact rfl | exact if_pos hg) fld76_1) ?_ | refine aq_maybe rfl (fun hg => y_fieldAddr_pp rfl (by first | exact rfl | exact if_pos hg) rfl rfl fld76_1) ?_ | refine aq_maybe rfl (fun hg => y_fieldAddr rfl rfl fld76_1) ?_ | refine aq_maybe rfl (fun hg => y_fieldAddr_pp rfl rfl rfl rfl fld76_1) ?_ | refine aq_maybe (x := .pub (.tup [])) rfl (fun hg => absurd hg (by decide)) ?_
                first | refine aq_maybe rfl (fun hg => y_load1 rfl (by first | exact rfl | exact if_pos hg) rfl ty3) ?_ | refine aq_maybe rfl (fun hg => y_load_pp1 rfl (by first | exact rfl | exact if_pos hg) rfl rfl rfl rfl ty3) ?_ | refine aq_maybe rfl (fun hg => y_load1 rfl rfl rfl ty3) ?_ | refine aq_maybe rfl (fun hg => y_load_pp1 rfl rfl rfl rfl rfl rfl ty3) ?_ | refine aq_maybe (x := .pub (.tup [])) rfl (fun hg => absurd hg (by decide)) ?_
                first | refine aq_maybe rfl (fun hg => y_moveV rfl rfl) ?_ | refine aq_maybe rfl (fun hg => y_moveP rfl rfl) ?_ | refine aq_maybe rfl (fun hg => y_moveS rfl rfl) ?_ | refine aq_maybe rfl (fun hg => y_moveG rfl rfl) ?_ | refine aq_maybe (x := .pub (.tup [])) rfl (fun hg => absurd hg (by decide)) ?_
                first | refine aq_maybe rfl (fun hg => y_moveV rfl rfl) ?_ | refine aq_maybe rfl (fun hg => y_moveP rfl rfl) ?_ | refine aq_maybe rfl (fun hg => y_moveS rfl rfl) ?_ | refine aq_maybe rfl (fun hg => y_moveG rfl rfl) ?_ | refine aq_maybe (x := .pub (.tup [])) rfl (fun hg => absurd hg (by decide)) ?_
                first | refine aq_maybe rfl (fun hg => y_indexAddr rfl (by first | exact rfl | exact if_pos hg) (by first | exact rfl | exact if_pos hg) slc79 (by omega) (span_at hlt2) span_len) ?_ | refine aq_maybe rfl (fun hg => y_indexAddr_psl rfl (by first | exact rfl | exact if_pos hg) (by first | exact rfl | exact if_pos hg) rfl rfl slc79 (by omega) (span_at hlt2) span_len) ?_ | refine aq_maybe rfl (fun hg => y_indexAddr rfl rfl rfl slc79 (by omega) (span_at hlt2) span_len) ?_ | refine aq_maybe rfl (fun hg => y_indexAddr_psl rfl rfl rfl rfl rfl slc79 (by omega) (span_at hlt2) span_len) ?_ | refine aq_maybe (x := .pub (.tup [])) rfl (fun hg => absurd hg (by decide)) ?_
                first | refine aq_maybe rfl (fun hg => y_fieldAddr rfl (by first | exact rfl | exact if_pos hg) fld76_1) ?_ | refine aq_maybe rfl (fun hg => y_fieldAddr_pp rfl (by first | exact rfl | exact if_pos hg) rfl rfl fld76_1) ?_ | refine aq_maybe rfl (fun hg => y_fieldAddr rfl rfl fld76_1) ?_ | refine aq_maybe rfl (fun hg => y_fieldAddr_pp rfl rfl rfl rfl fld76_1) ?_ | refine aq_maybe (x := .pub (.tup [])) rfl (fun hg => absurd hg (by decide)) ?_
                first | refine aq_maybe rfl (fun hg => y_load1 rfl (by first | exact rfl | exact if_pos hg) rfl ty3) ?_ | refine aq_maybe rfl (fun hg => y_load_pp1 rfl (by first | exact rfl | exact if_pos hg) rfl rfl rfl rfl ty3) ?_ | refine aq_maybe rfl (fun hg => y_load1 rfl rfl rfl ty3) ?_ | refine aq_maybe rfl (fun hg => y_load_pp1 rfl rfl rfl rfl rfl rfl ty3) ?_ | refine aq_maybe (x := .pub (.tup [])) rfl (fun hg => absurd hg (by decide)) ?_
                first | refine aq_maybe rfl (fun hg => y_gtr rfl (by first | exact rfl | exact if_pos hg) (by first | exact rfl | exact if_pos hg)) ?_ | refine aq_maybe rfl (fun hg => y_gtr rfl rfl rfl) ?_ | refine aq_maybe (x := .pub (.tup [])) rfl (fun hg => absurd hg (by decide)) ?_
                first | refine aq_y rfl (y_and rfl rfl rfl rfl) ?_ | refine aq_y rfl (y_or rfl rfl rfl rfl) ?_ | refine aq_y rfl (y_pick rfl rfl (fun _ => rfl) (fun _ => rfl)) ?_
                refine aq_nil ?_
                refine qt_normal ?_
                refine ac_cond rfl (fun h6 => ?_) (fun h6 => ?_)
                · skip
                  exfalso; simp at h6; omega
                · skip
                  refine ac_skip ?_
                  refine qb_normal ?_
                  refine qt_normal ?_
                  refine ac_region ?_
                  first | refine al_y rfl rfl (y_moveV rfl rfl) ?_ | refine al_y rfl rfl (y_moveP rfl rfl) ?_ | refine al_y rfl rfl (y_moveS rfl rfl) ?_ | refine al_y rfl rfl (y_moveG rfl rfl) ?_
                  refine al_y rfl rfl (y_add rfl rfl rfl ⟨(by omega), (by omega)⟩) ?_
                  first | refine al_y rfl rfl (y_assignV rfl rfl) ?_ | refine al_y rfl rfl (y_assignP rfl rfl) ?_ | refine al_y rfl rfl (y_assignS rfl rfl) ?_ | refine al_y rfl rfl (y_assignG rfl rfl) ?_
                  refine al_nil ?_
                  exact ⟨⟨k + 1, by omega⟩, by dsimp only; omega, weak_frM _ ⟨rfl, rfl, rfl, trivial⟩ (rfl)⟩
              · skip
                have hge : ly.length ≤ k := by simpa using h5
                refine ac_exit ?_
                refine qt_exit ?_
                refine qt_exit ?_
                refine qb_exit ?_
                refine qt_normal ?_
                refine ac_seq ?_
                refine ac_region ?_
                refine al_y rfl rfl (y_callF (av := []) rfl trivial hkn) ?_
                first | refine al_y rfl rfl (y_assignV rfl rfl) ?_ | refine al_y rfl rfl (y_assignP rfl rfl) ?_ | refine al_y rfl rfl (y_assignS rfl rfl) ?_ | refine al_y rfl rfl (y_assignG rfl rfl) ?_
                refine al_nil ?_
                refine qt_normal ?_
                refine ac_ret ?_
                exact ⟨.inr rfl, AVle.refl _⟩

theorem f11 (hk : KN G) (m : Mp) (s : Stn) (t a b : Int) : ACall Tryz.prog G 11 [.agg (eMp m), .agg (eStn s), ei t, ei a, ei b] (.v (.bool true)) := by
  by_cases h : (m.st.length ≤ 16 ∧ mapB m = true ∧ m.st.length ≠ 0 ∧ 0 ≤ t ∧ 0 ≤ a ∧ a < (m.st.length : Int) ∧ 0 ≤ b ∧ b < (m.st.length : Int))
  · obtain ⟨hs, hb, h0, ht, ha, ha2, hb1, hb2⟩ := h
    have hm := (okM_iff m).1 hb
    obtain ⟨t, rfl⟩ := Int.eq_ofNat_of_zero_le ht
    obtain ⟨a, rfl⟩ := Int.eq_ofNat_of_zero_le ha
    obtain ⟨b, rfl⟩ := Int.eq_ofNat_of_zero_le hb1
    have hn := npt_bd hm
    have hXl : (m.st.drop (t % m.st.length) ++ m.st.take (t % m.st.length)).length = m.st.length := (turn_perm m.st _).length_eq
    have hXa : a < (m.st.drop (t % m.st.length) ++ m.st.take (t % m.st.length)).length := by omega
    have hXb : b < (m.st.drop (t % m.st.length) ++ m.st.take (t % m.st.length)).length := by omega
    have hp := (swap_perm _ hXa hXb).trans (turn_perm m.st (t % m.st.length))
    have hox := okM_perm hm hp
    have hnm : npt (withS m (m.st ++ [s])) = npt m := rfl
    have hy : ∀ (la : List (Int × Int)) (E : Int), (clashOf m = none → la = bds m ∧ E = 0) → mapB (withS m (m.st ++ [s])) = true → ∃ ly Ey, ACall Tryz.prog G 50 [.agg (eMp (withS m (m.st ++ [s])))] (.tup [eSpans ly, ei Ey]) ∧ ly.length ≤ 1000 ∧ (Ey = 7 ∨ (Ey = 0 ∧ E = 0 ∧ ly.length = la.length ∧ ∀ (k : Nat) (h1 : k < ly.length) (h2 : k < la.length), la[k].1 ≤ ly[k].1 ∧ ly[k].2 ≤ la[k].2)) := fun la E hla hby => by
      have hoy := (okM_iff _).1 hby
      cases hcy : clashOf (withS m (m.st ++ [s])) with
      | some p => exact ⟨[], 7, f50_clash _ hoy p hcy, by simp, .inl rfl⟩
      | none =>
        obtain ⟨e1, e2⟩ := hla (clash_more hcy)
        subst e1
        refine ⟨bds (withS m (m.st ++ [s])), 0, f50_ok _ hoy hcy, by rw [bds_len]; omega, .inr ⟨rfl, e2, by rw [bds_len, bds_len]; rfl, fun k h1 h2 => ?_⟩⟩
        rw [bds_at h1, bds_at h2]
        exact ⟨lo_more, hi_more⟩
    cases hc : clashOf m with
    | none =>
      have hcx := (clash_perm hp).2 hc
      have h50x := f50_ok (G := G) _ hox hcx
      have h22x := f22_ok (G := G) _ hox hcx
      rw [bds_perm hp] at h50x
      rw [drawF_perm hp] at h22x
      exact f11_main hk m s t a b hs hm h0 (by omega) (by omega) _ _ rfl hXa hXb rfl (bds m) 0 (drawF m) (by rw [bds_len]; omega) (drawF_len hm) (f50_ok m hm hc) h50x (f22_ok m hm hc) h22x (hy _ _ fun _ => ⟨rfl, rfl⟩)
    | some p =>
      cases hcx : clashOf (withS m _) with
      | none => rw [(clash_perm hp).1 hcx] at hc; cases hc
      | some q => exact f11_main hk m s t a b hs hm h0 (by omega) (by omega) _ _ rfl hXa hXb rfl [] 7 zFld (by simp) (by simp [zFld]) (f50_clash m hm p hc) (f50_clash _ hox q hcx) (f22_clash m hm p hc) (f22_clash _ hox q hcx) (hy _ _ fun e => by rw [hc] at e; cases e)
  · exact f11_triv hk m s t a b h
end Go.Av
end
