/- isBook. · Look, Book. -/
import Derived.Test.YtaphehlgijlfeaaGreatDoorWiH
import Derived.Test.YtaphehlgijlfeaaGreatDoorPlatH
set_option linter.unusedVariables false
set_option linter.unusedSimpArgs false
section
namespace Go.Av
open Go.Proofs
set_option maxRecDepth 100000
set_option maxHeartbeats 1000000
set_option linter.unusedSimpArgs false
variable {G : Glob}
theorem slc63 : slcIs Tryz.prog 63 3 = true := by kernel_rfl
theorem ty152 : tyIs Tryz.prog 152 true 3 = true := by kernel_rfl
theorem zv152 : (Tryz.prog.info? 152).bind (·.zero) = some (.agg #[.string ⟨#[]⟩, .int .i64 0, .int .i64 0]) := by kernel_rfl
theorem fld152_0 : fldIs Tryz.prog 152 0 0 = true := by kernel_rfl
theorem fld152_1 : fldIs Tryz.prog 152 1 1 = true := by kernel_rfl
theorem fld152_2 : fldIs Tryz.prog 152 2 2 = true := by kernel_rfl

abbrev encS : List UInt8 → Value := fun l => Value.string ⟨l.toArray⟩
def wm (l : List Ent) : List (List UInt8 × EV) := l.map fun e => (e.word, B true)
theorem getA_wm (w : List UInt8) : ∀ l : List Ent, getA w (EV.pub (ofV (.bool false))) (wm l) = B (decide (w ∈ l.map (·.word)))
  | [] => by simp [wm, getA, ofV]
  | e :: l => by
    have ih := getA_wm w l
    simp only [wm, List.map_cons, getA] at ih ⊢
    by_cases h : e.word = w
    · rw [if_pos h]; simp [h]
    · rw [if_neg h, ih]
      have : (w ∈ e.word :: List.map (·.word) l) ↔ w ∈ List.map (·.word) l := by simp [Ne.symm h, fun e' : w = e.word => h e'.symm]
      rw [decide_eq_decide.2 this]
theorem setA_wm (w : List UInt8) : ∀ l : List Ent, w ∉ l.map (·.word) → setA w (B true) (wm l) = wm l ++ [(w, B true)]
  | [], _ => by simp [wm, setA]
  | e :: l, h => by
    simp only [List.map_cons, List.mem_cons, not_or] at h
    have ih := setA_wm w l h.2
    simp only [wm, List.map_cons, setA] at ih ⊢
    rw [if_neg (fun e' => h.1 e'.symm), ih]; rfl
theorem zvb : (Tryz.prog.info? 4).bind (·.zero) = some (.bool false) := by kernel_rfl
theorem y_lookW {fr : Nat → EV} {mem : List PO} {o : Oper} {x i : Operand} {k : Nat} {L : List Ent} {w : List UInt8} (ho : o.op = .lookup 194 x i false) (hx : evO fr x = .mpv k) (hm : mem[k]? = some (mapO encS (wm L))) (hi : evO fr i = .pub (eS w)) :
    OpY Tryz.prog G fr mem o (B (decide (w ∈ L.map (·.word)))) := by
  have := y_lookupM (P := Tryz.prog) (G := G) (enc := encS) (a := w) (es := wm L) ho hx hm hi keyV_v Tryz.underlying194 (keyT_str Tryz.underlying9) zvb
  rw [getA_wm] at this
  exact this
def entB (e : Ent) : Bool := ofB letR e.word && inB e.first 0 99999 && inB e.second 0 99999
/-- A book, but for how many entries it has. -/
def bkE (l : List Ent) : Bool := l.all entB && decide (l.map (·.word)).Nodup
def bookB (l : List Ent) : Bool := bkE l && decide (l.length ≤ 12)
theorem ent_at {l : List Ent} {k : Nat} (h : k < l.length) : (l.map eEnt)[k]? = some (eEnt l[k]) := by simp [h]
theorem ent_len {l : List Ent} : ∀ q ∈ l.map eEnt, q.length = 3 := fun q hq => by obtain ⟨p, _, rfl⟩ := List.mem_map.1 hq; rfl
theorem nodup_step {l : List Ent} {q : Nat} (h : q < l.length) (h0 : ((l.take q).map (·.word)).Nodup) (h1 : l[q].word ∉ (l.take q).map (·.word)) : ((l.take (q + 1)).map (·.word)).Nodup := by
  rw [List.take_succ_eq_append_getElem h, List.map_append, List.nodup_append]
  exact ⟨h0, by simp, fun a ha b hb e => by simp at hb; subst hb; exact h1 (e ▸ ha)⟩
theorem nodup_no {l : List Ent} {q : Nat} (h : q < l.length) (h1 : l[q].word ∈ (l.take q).map (·.word)) : ¬ (l.map (·.word)).Nodup := fun hn => by
  have e : l.map (·.word) = (l.take q).map (·.word) ++ (l.drop q).map (·.word) := by rw [← List.map_append, List.take_append_drop]
  rw [e, List.nodup_append] at hn
  exact hn.2.2 _ h1 l[q].word (List.mem_map.2 ⟨l[q], by rw [List.drop_eq_getElem_cons h]; exact List.mem_cons_self .., rfl⟩) rfl
theorem wm_step {l : List Ent} {q : Nat} (h : q < l.length) (h1 : l[q].word ∉ (l.take q).map (·.word)) : setA l[q].word (B true) (wm (l.take q)) = wm (l.take (q + 1)) := by
  rw [setA_wm _ _ h1]
  unfold wm
  rw [List.take_succ_eq_append_getElem h, List.map_append]; rfl
theorem bkE_no {l : List Ent} {q : Nat} (h : q < l.length) (hb : (entB l[q] = true ∧ l[q].word ∉ (l.take q).map (·.word)) → False) : bkE l = false := by
  cases he : entB l[q] with
  | false => rw [bkE, all_no h he]; rfl
  | true =>
    have : l[q].word ∈ (l.take q).map (·.word) := Classical.byContradiction fun hn => hb ⟨he, hn⟩
    rw [bkE, decide_eq_false (nodup_no h this), Bool.and_false]

/-- wire.isBook -/
theorem f102 (l : List Ent) (hl : l.length ≤ 1000) : ACall Tryz.prog G 102 [eBk l] (.v (.bool (bookB l))) := by
  refine acall_of Tryz.func102 rfl (by kernel_rfl) rfl ?_
  refine ac_seq ?_
  refine ac_region ?_
  first | refine al_y rfl rfl (y_assignV rfl rfl) ?_ | refine al_y rfl rfl (y_assignP rfl rfl) ?_ | refine al_y rfl rfl (y_assignS rfl rfl) ?_ | refine al_y rfl rfl (y_assignG rfl rfl) ?_
  refine al_nil ?_
  refine qt_normal ?_
  refine ac_seq ?_
  refine ac_region ?_
  refine al_m rfl (m_makeMap rfl rfl) ?_
  first | refine al_y rfl rfl (y_assignV rfl rfl) ?_ | refine al_y rfl rfl (y_assignP rfl rfl) ?_ | refine al_y rfl rfl (y_assignS rfl rfl) ?_ | refine al_y rfl rfl (y_assignG rfl rfl) ?_
  refine al_nil ?_
  refine qt_normal ?_
  refine ac_seq ?_
  refine ac_seq ?_
  refine ac_region ?_
  first | refine al_y rfl rfl (y_moveV rfl rfl) ?_ | refine al_y rfl rfl (y_moveP rfl rfl) ?_ | refine al_y rfl rfl (y_moveS rfl rfl) ?_ | refine al_y rfl rfl (y_moveG rfl rfl) ?_
  first | refine al_y rfl rfl (y_len rfl rfl rfl Tryz.underlying63) ?_ | refine al_y rfl rfl (y_len_psl rfl rfl rfl (by simp) Tryz.underlying63) ?_ | refine al_y rfl rfl (y_len_nil rfl rfl Tryz.underlying63) ?_
  first | refine al_y rfl rfl (y_moveV rfl rfl) ?_ | refine al_y rfl rfl (y_moveP rfl rfl) ?_ | refine al_y rfl rfl (y_moveS rfl rfl) ?_ | refine al_y rfl rfl (y_moveG rfl rfl) ?_
  refine al_nil ?_
  refine qt_normal ?_
  refine ac_block ?_
  refine ac_loop (ι := { q : Nat // q ≤ l.length ∧ (l.take q).all entB = true ∧ ((l.take q).map (·.word)).Nodup }) (fun q => ⟨Tryz.f102.ntmps, frL [(0, .pub (eBk l)), (3, .mpv 0), (7, .pub (eBk l)), (8, I (l.length : Int)), (9, I (q.1 : Int))], [mapO encS (wm (l.take q.1))]⟩) (fun q => l.length - q.1) (⟨0, by simp⟩) ?_ ?_
  · exact weak_frM _ ⟨rfl, rfl, rfl, (congrArg (fun x : Nat => I (x : Int)) (List.length_map _)), rfl, trivial⟩ (rfl)
  · rintro ⟨q, hq⟩
    dsimp only
    refine ac_seq ?_
    refine ac_region ?_
    refine al_y rfl rfl (y_lss rfl rfl rfl) ?_
    refine al_nil ?_
    refine qt_normal ?_
    refine ac_seq ?_
    refine ac_cond rfl (fun h0 => ?_) (fun h0 => ?_)
    · skip
      have hlt : q < l.length := by simpa using h0
      refine ac_skip ?_
      refine qt_normal ?_
      refine ac_seq ?_
      refine ac_block ?_
      refine ac_seq ?_
      refine ac_region ?_
      first | refine al_y rfl rfl (y_indexAddr rfl rfl rfl slc63 (by omega) (ent_at hlt) ent_len) ?_ | refine al_y rfl rfl (y_indexAddr_psl rfl rfl rfl rfl rfl slc63 (by omega) (ent_at hlt) ent_len) ?_
      first | refine al_y rfl rfl (y_loadN rfl rfl ty152 (by exact Nat.le_of_ble_eq_true rfl)) ?_ | refine al_y rfl rfl (y_load_ppA (cs := [_, _, _]) rfl rfl rfl rfl rfl (by exact Nat.le_of_ble_eq_true rfl) rfl ty152) ?_ | refine al_y rfl rfl (y_load_ppN rfl rfl rfl rfl rfl (by exact Nat.le_of_ble_eq_true rfl) rfl ty152) ?_
      refine al_pair  rfl rfl rfl rfl rfl rfl rfl zv152 ty152 rfl (by rfl) (cE_agg rfl) rfl ?_
      refine al_nil ?_
      refine qt_normal ?_
      refine ac_seq ?_
      refine ac_seq ?_
      refine ac_region ?_
      first | refine al_y rfl rfl (y_fieldAddr rfl rfl fld152_0) ?_ | refine al_y rfl rfl (y_fieldAddr_pp rfl rfl rfl rfl fld152_0) ?_
      first | refine al_y rfl rfl (y_load1 rfl rfl rfl ty9) ?_ | refine al_y rfl rfl (y_load_pp1 rfl rfl rfl rfl rfl rfl ty9) ?_
      refine al_y rfl rfl (y_callF (av := [_, _]) rfl ⟨rfl, rfl, trivial⟩ (f103 l[q].word letR 105 [] [] letR_hi (fun r => f105 r))) ?_
      refine al_y rfl rfl (y_not rfl rfl) ?_
      first | refine al_y rfl rfl (y_moveV rfl rfl) ?_ | refine al_y rfl rfl (y_moveP rfl rfl) ?_ | refine al_y rfl rfl (y_moveS rfl rfl) ?_ | refine al_y rfl rfl (y_moveG rfl rfl) ?_
      first | refine al_maybe rfl rfl rfl (fun hg => y_moveV rfl rfl) ?_ | refine al_maybe rfl rfl rfl (fun hg => y_moveP rfl rfl) ?_ | refine al_maybe rfl rfl rfl (fun hg => y_moveS rfl rfl) ?_ | refine al_maybe rfl rfl rfl (fun hg => y_moveG rfl rfl) ?_ | refine al_maybe (x := .pub (.tup [])) rfl rfl rfl (fun hg => absurd hg (by decide)) ?_
      first | refine al_maybe rfl rfl rfl (fun hg => y_fieldAddr rfl rfl fld152_0) ?_ | refine al_maybe rfl rfl rfl (fun hg => y_fieldAddr_pp rfl rfl rfl rfl fld152_0) ?_ | refine al_maybe (x := .pub (.tup [])) rfl rfl rfl (fun hg => absurd hg (by decide)) ?_
      first | refine al_maybe rfl rfl rfl (fun hg => y_load1 rfl (by first | exact rfl | exact if_pos hg) rfl ty9) ?_ | refine al_maybe rfl rfl rfl (fun hg => y_load_pp1 rfl (by first | exact rfl | exact if_pos hg) rfl rfl rfl rfl ty9) ?_ | refine al_maybe rfl rfl rfl (fun hg => y_load1 rfl rfl rfl ty9) ?_ | refine al_maybe rfl rfl rfl (fun hg => y_load_pp1 rfl rfl rfl rfl rfl rfl ty9) ?_ | refine al_maybe (x := .pub (.tup [])) rfl rfl rfl (fun hg => absurd hg (by decide)) ?_
      refine al_maybe (x := B (decide ((l[q]'hlt).word ∈ (l.take q).map (·.word)))) rfl rfl rfl (fun hg => ?_) ?_
      · refine y_lookW (k := 0) (L := l.take q) (w := (l[q]'hlt).word) rfl ?_ ?_ ?_
        · exact if_pos hg
        · exact rfl
        · exact if_pos hg
      first | refine al_y rfl rfl (y_and rfl rfl rfl rfl) ?_ | refine al_y rfl rfl (y_or rfl rfl rfl rfl) ?_ | refine al_y rfl rfl (y_pick rfl rfl (fun _ => rfl) (fun _ => rfl)) ?_ | refine al_y rfl rfl (y_pick rfl rfl (fun _ => rfl) (fun h => absurd h (by decide))) ?_ | refine al_y rfl rfl (y_pick rfl rfl (fun h => absurd h (by decide)) (fun _ => rfl)) ?_
      first | refine al_y rfl rfl (y_moveV rfl rfl) ?_ | refine al_y rfl rfl (y_moveP rfl rfl) ?_ | refine al_y rfl rfl (y_moveS rfl rfl) ?_ | refine al_y rfl rfl (y_moveG rfl rfl) ?_
      first | refine al_maybe rfl rfl rfl (fun hg => y_fieldAddr rfl rfl fld152_1) ?_ | refine al_maybe rfl rfl rfl (fun hg => y_fieldAddr_pp rfl rfl rfl rfl fld152_1) ?_ | refine al_maybe (x := .pub (.tup [])) rfl rfl rfl (fun hg => absurd hg (by decide)) ?_
      first | refine al_maybe rfl rfl rfl (fun hg => y_load1 rfl (by first | exact rfl | exact if_pos hg) rfl ty3) ?_ | refine al_maybe rfl rfl rfl (fun hg => y_load_pp1 rfl (by first | exact rfl | exact if_pos hg) rfl rfl rfl rfl ty3) ?_ | refine al_maybe rfl rfl rfl (fun hg => y_load1 rfl rfl rfl ty3) ?_ | refine al_maybe rfl rfl rfl (fun hg => y_load_pp1 rfl rfl rfl rfl rfl rfl ty3) ?_ | refine al_maybe (x := .pub (.tup [])) rfl rfl rfl (fun hg => absurd hg (by decide)) ?_
      first | refine al_maybe rfl rfl rfl (fun hg => y_callF (av := [_, _, _]) rfl ⟨(by first | exact (if_pos hg) | exact rfl), rfl, rfl, trivial⟩ (f107 _ _ _)) ?_ | refine al_maybe rfl rfl rfl (fun hg => y_callF (av := [_, _, _]) rfl ⟨(by first | exact rfl | exact rfl), rfl, rfl, trivial⟩ (f107 _ _ _)) ?_ | refine al_maybe (x := .pub (.tup [])) rfl rfl rfl (fun hg => absurd hg (by decide)) ?_
      first | refine al_maybe rfl rfl rfl (fun hg => y_not rfl (by first | exact rfl | exact if_pos hg)) ?_ | refine al_maybe rfl rfl rfl (fun hg => y_not rfl rfl) ?_ | refine al_maybe (x := .pub (.tup [])) rfl rfl rfl (fun hg => absurd hg (by decide)) ?_
      first | refine al_y rfl rfl (y_and rfl rfl rfl rfl) ?_ | refine al_y rfl rfl (y_or rfl rfl rfl rfl) ?_ | refine al_y rfl rfl (y_pick rfl rfl (fun _ => rfl) (fun _ => rfl)) ?_ | refine al_y rfl rfl (y_pick rfl rfl (fun _ => rfl) (fun h => absurd h (by decide))) ?_ | refine al_y rfl rfl (y_pick rfl rfl (fun h => absurd h (by decide)) (fun _ => rfl)) ?_
      first | refine al_y rfl rfl (y_moveV rfl rfl) ?_ | refine al_y rfl rfl (y_moveP rfl rfl) ?_ | refine al_y rfl rfl (y_moveS rfl rfl) ?_ | refine al_y rfl rfl (y_moveG rfl rfl) ?_
      first | refine al_maybe rfl rfl rfl (fun hg => y_fieldAddr rfl rfl fld152_2) ?_ | refine al_maybe rfl rfl rfl (fun hg => y_fieldAddr_pp rfl rfl rfl rfl fld152_2) ?_ | refine al_maybe (x := .pub (.tup [])) rfl rfl rfl (fun hg => absurd hg (by decide)) ?_
      first | refine al_maybe rfl rfl rfl (fun hg => y_load1 rfl (by first | exact rfl | exact if_pos hg) rfl ty3) ?_ | refine al_maybe rfl rfl rfl (fun hg => y_load_pp1 rfl (by first | exact rfl | exact if_pos hg) rfl rfl rfl rfl ty3) ?_ | refine al_maybe rfl rfl rfl (fun hg => y_load1 rfl rfl rfl ty3) ?_ | refine al_maybe rfl rfl rfl (fun hg => y_load_pp1 rfl rfl rfl rfl rfl rfl ty3) ?_ | refine al_maybe (x := .pub (.tup [])) rfl rfl rfl (fun hg => absurd hg (by decide)) ?_
      first | refine al_maybe rfl rfl rfl (fun hg => y_callF (av := [_, _, _]) rfl ⟨(by first | exact (if_pos hg) | exact rfl), rfl, rfl, trivial⟩ (f107 _ _ _)) ?_ | refine al_maybe rfl rfl rfl (fun hg => y_callF (av := [_, _, _]) rfl ⟨(by first | exact rfl | exact rfl), rfl, rfl, trivial⟩ (f107 _ _ _)) ?_ | refine al_maybe (x := .pub (.tup [])) rfl rfl rfl (fun hg => absurd hg (by decide)) ?_
      first | refine al_maybe rfl rfl rfl (fun hg => y_not rfl (by first | exact rfl | exact if_pos hg)) ?_ | refine al_maybe rfl rfl rfl (fun hg => y_not rfl rfl) ?_ | refine al_maybe (x := .pub (.tup [])) rfl rfl rfl (fun hg => absurd hg (by decide)) ?_
      first | refine al_y rfl rfl (y_and rfl rfl rfl rfl) ?_ | refine al_y rfl rfl (y_or rfl rfl rfl rfl) ?_ | refine al_y rfl rfl (y_pick rfl rfl (fun _ => rfl) (fun _ => rfl)) ?_ | refine al_y rfl rfl (y_pick rfl rfl (fun _ => rfl) (fun h => absurd h (by decide))) ?_ | refine al_y rfl rfl (y_pick rfl rfl (fun h => absurd h (by decide)) (fun _ => rfl)) ?_
      refine al_nil ?_
      refine qt_normal ?_
      refine ac_cond rfl (fun h1 => ?_) (fun h1 => ?_)
      · skip
        have hno : bkE l = false := bkE_no hlt (fun h => by have h2 := decide_eq_false h.2; simp only [entB, Bool.and_eq_true] at h; simp only [h.1.1.1, h.1.1.2, h.1.2, h2, Bool.not_true, Bool.or_false, Bool.false_or, Bool.or_self, Bool.false_eq_true] at h1)
        refine ac_seq ?_
        refine ac_region ?_
        first | refine al_y rfl rfl (y_assignV rfl rfl) ?_ | refine al_y rfl rfl (y_assignP rfl rfl) ?_ | refine al_y rfl rfl (y_assignS rfl rfl) ?_ | refine al_y rfl rfl (y_assignG rfl rfl) ?_
        refine al_nil ?_
        refine qt_normal ?_
        refine ac_ret ?_
        refine qt_ret ?_
        refine qb_ret ?_
        refine qt_ret ?_
        refine qt_ret ?_
        refine qb_ret ?_
        refine qt_ret ?_
        exact ⟨.inr rfl, AVle.of (by rw [bookB, hno]; rfl)⟩
      · skip
        have hyes : entB l[q] = true ∧ l[q].word ∉ (l.take q).map (·.word) := by
          simp only [entB]; simp only [Bool.or_eq_false_iff, Bool.not_eq_false', decide_eq_false_iff_not] at h1; exact ⟨by simp [h1.1.1.1, h1.1.2, h1.2], h1.1.1.2⟩
        refine ac_skip ?_
        refine qt_normal ?_
        refine ac_region ?_
        first | refine al_y rfl rfl (y_moveV rfl rfl) ?_ | refine al_y rfl rfl (y_moveP rfl rfl) ?_ | refine al_y rfl rfl (y_moveS rfl rfl) ?_ | refine al_y rfl rfl (y_moveG rfl rfl) ?_
        first | refine al_y rfl rfl (y_fieldAddr rfl rfl fld152_0) ?_ | refine al_y rfl rfl (y_fieldAddr_pp rfl rfl rfl rfl fld152_0) ?_
        first | refine al_y rfl rfl (y_load1 rfl rfl rfl ty9) ?_ | refine al_y rfl rfl (y_load_pp1 rfl rfl rfl rfl rfl rfl ty9) ?_
        refine al_m rfl (m_mapUpdate (enc := encS) (es := wm (l.take q)) (a := l[q].word) (v := B true) (.inl rfl) rfl rfl rfl rfl keyV_v Tryz.underlying194 (keyT_str Tryz.underlying9) rfl) ?_
        refine al_nil ?_
        refine qb_normal ?_
        refine qt_normal ?_
        refine ac_region ?_
        refine al_y rfl rfl (y_add rfl rfl rfl ⟨(by omega), (by omega)⟩) ?_
        first | refine al_y rfl rfl (y_moveV rfl rfl) ?_ | refine al_y rfl rfl (y_moveP rfl rfl) ?_ | refine al_y rfl rfl (y_moveS rfl rfl) ?_ | refine al_y rfl rfl (y_moveG rfl rfl) ?_
        refine al_nil ?_
        exact ⟨⟨q + 1, by omega, all_take hq.2.1 hlt hyes.1, nodup_step hlt hq.2.2 hyes.2⟩, by dsimp only; omega, weak_frM _ ⟨rfl, rfl, rfl, rfl, rfl, trivial⟩ (congrArg (fun z => [mapO encS z]) (wm_step hlt hyes.2))⟩
    · skip
      have hge : l.length ≤ q := by simpa using h0
      refine ac_exit ?_
      refine qt_exit ?_
      refine qt_exit ?_
      refine qb_exit ?_
      refine qt_normal ?_
      refine ac_seq ?_
      refine ac_region ?_
      first | refine al_y rfl rfl (y_moveV rfl rfl) ?_ | refine al_y rfl rfl (y_moveP rfl rfl) ?_ | refine al_y rfl rfl (y_moveS rfl rfl) ?_ | refine al_y rfl rfl (y_moveG rfl rfl) ?_
      first | refine al_y rfl rfl (y_len rfl rfl rfl Tryz.underlying63) ?_ | refine al_y rfl rfl (y_len_psl rfl rfl rfl (by simp) Tryz.underlying63) ?_ | refine al_y rfl rfl (y_len_nil rfl rfl Tryz.underlying63) ?_
      refine al_y rfl rfl (y_leq rfl rfl rfl) ?_
      first | refine al_y rfl rfl (y_assignV rfl rfl) ?_ | refine al_y rfl rfl (y_assignP rfl rfl) ?_ | refine al_y rfl rfl (y_assignS rfl rfl) ?_ | refine al_y rfl rfl (y_assignG rfl rfl) ?_
      refine al_nil ?_
      refine qt_normal ?_
      refine ac_ret ?_
      exact ⟨.inr rfl, AVle.of (by have h1 := hq.2; rw [List.take_of_length_le hge] at h1; rw [bookB, bkE, h1.1, decide_eq_true h1.2]; simp [eBk]; omega)⟩
end Go.Av
end

section
namespace Go.Av
open Go.Proofs
set_option maxRecDepth 100000
set_option maxHeartbeats 1000000
set_option linter.unusedSimpArgs false
variable {G : Glob}
theorem ti3 : Tryz.prog.info? 3 = some Tryz.t3 := by kernel_rfl
theorem el23 : elemIs Tryz.prog 23 3 1 8 := ⟨Tryz.underlying23, Tryz.t3, _, by kernel_rfl, rfl, rfl, rfl, rfl, by decide⟩

theorem nxT1 {s : ByteArray} {k : Nat} (h : k < s.size) : (nxT s k)[1]? = some (.v (goInt k)) := by
  unfold nxT; rw [if_pos h]; rfl
/-- How many of the first characters cannot be so. -/
def msK (w e : List UInt8) : Nat → Int
  | 0 => 0
  | k + 1 => msK w e k + (if h : k < w.length ∧ k < e.length then (if w[k].toNat ≠ 63 ∧ w[k] ≠ e[k] then 1 else 0) else 0)
def msT (w e : List UInt8) : Int := msK w e w.length
theorem msK_bd (w e : List UInt8) : ∀ k, 0 ≤ msK w e k ∧ msK w e k ≤ k
  | 0 => by simp [msK]
  | k + 1 => by
    have ih := msK_bd w e k
    simp only [msK]
    split
    · split <;> omega
    · omega
theorem msK_yes {w e : List UInt8} {k : Nat} (h1 : k < w.length) (h2 : k < e.length) (h : w[k].toNat ≠ 63 ∧ w[k] ≠ e[k]) : msK w e (k + 1) = msK w e k + 1 := by
  rw [msK, dif_pos ⟨h1, h2⟩, if_pos h]
theorem msK_no {w e : List UInt8} {k : Nat} (h1 : k < w.length) (h2 : k < e.length) (h : ¬ (w[k].toNat ≠ 63 ∧ w[k] ≠ e[k])) : msK w e (k + 1) = msK w e k := by
  rw [msK, dif_pos ⟨h1, h2⟩, if_neg h, Int.add_zero]
theorem msK_end {w e : List UInt8} (d k : Nat) (h : w.length ≤ k ∨ e.length ≤ k) : msK w e (k + d) = msK w e k := by
  induction d with
  | zero => rfl
  | succ d ih => rw [← Nat.add_assoc, msK, dif_neg (by omega), ih, Int.add_zero]
theorem msT_at {w e : List UInt8} {k : Nat} (hk : k ≤ w.length) (h : w.length ≤ k ∨ e.length ≤ k) : msK w e k = msT w e := by
  rw [msT, show w.length = k + (w.length - k) from by omega, msK_end _ _ (by omega)]
/-- The entries whose word it can be. -/
def lkN (w : List UInt8) (miss : Int) (l : List Ent) : Nat → List Int
  | 0 => []
  | k + 1 => lkN w miss l k ++ (if h : k < l.length then (if msT w l[k].word ≤ miss then [(k : Int)] else []) else [])
theorem lkN_len (w : List UInt8) (miss : Int) (l : List Ent) : ∀ k, (lkN w miss l k).length ≤ k
  | 0 => by simp [lkN]
  | k + 1 => by
    have ih := lkN_len w miss l k
    simp only [lkN, List.length_append]
    split
    · split <;> simp <;> omega
    · simp; omega
theorem lkN_yes {w : List UInt8} {miss : Int} {l : List Ent} {k : Nat} (hk : k < l.length) (h : msT w l[k].word ≤ miss) : lkN w miss l (k + 1) = lkN w miss l k ++ [(k : Int)] := by
  rw [lkN, dif_pos hk, if_pos h]
theorem lkN_no {w : List UInt8} {miss : Int} {l : List Ent} {k : Nat} (hk : k < l.length) (h : ¬ msT w l[k].word ≤ miss) : lkN w miss l (k + 1) = lkN w miss l k := by
  rw [lkN, dif_pos hk, if_neg h, List.append_nil]
def lkA (w : List UInt8) (miss : Int) (l : List Ent) : List Int := lkN w miss l l.length
theorem bk_len {l : List Ent} (h : bookB l = true) {k : Nat} (hk : k < l.length) : l[k].word.length = 5 := by
  simp only [bookB, bkE, Bool.and_eq_true, List.all_eq_true] at h
  have h2 := h.1.1 _ (List.getElem_mem hk)
  simp only [entB, Bool.and_eq_true] at h2
  exact ofB_len h2.1.1
theorem nil_of {y : AV} (h : y = .sl []) : AVle (.v (.slice none 0 0)) y := h ▸ AVle.nil
theorem u8_int {a b : UInt8} : ((a.toNat : Int) = (b.toNat : Int)) ↔ a = b := ⟨fun h => UInt8.toNat_inj.1 (by omega), fun h => by rw [h]⟩
/-- wire.Look -/
theorem f46_bad (l : List Ent) (w : List UInt8) (miss : Int) (hl : l.length ≤ 1000) (hb : (bookB l && ofB lokR w && inB miss 0 5) = false) : ACall Tryz.prog G 46 [eBk l, eS w, ei miss] (.tup [.sl [], ei 2]) := by
  refine acall_of Tryz.func46 rfl (by kernel_rfl) rfl ?_
  refine ac_seq ?_
  refine ac_region ?_
  first | refine al_y rfl rfl (y_assignV rfl rfl) ?_ | refine al_y rfl rfl (y_assignP rfl rfl) ?_ | refine al_y rfl rfl (y_assignS rfl rfl) ?_ | refine al_y rfl rfl (y_assignG rfl rfl) ?_
  first | refine al_y rfl rfl (y_assignV rfl rfl) ?_ | refine al_y rfl rfl (y_assignP rfl rfl) ?_ | refine al_y rfl rfl (y_assignS rfl rfl) ?_ | refine al_y rfl rfl (y_assignG rfl rfl) ?_
  refine al_nil ?_
  refine qt_normal ?_
  refine ac_seq ?_
  refine ac_seq ?_
  refine ac_region ?_
  first | refine al_y rfl rfl (y_moveV rfl rfl) ?_ | refine al_y rfl rfl (y_moveP rfl rfl) ?_ | refine al_y rfl rfl (y_moveS rfl rfl) ?_ | refine al_y rfl rfl (y_moveG rfl rfl) ?_
  refine al_y rfl rfl (y_callF (av := [_]) rfl ⟨rfl, trivial⟩ (f102 l hl)) ?_
  refine al_y rfl rfl (y_not rfl rfl) ?_
  first | refine al_y rfl rfl (y_moveV rfl rfl) ?_ | refine al_y rfl rfl (y_moveP rfl rfl) ?_ | refine al_y rfl rfl (y_moveS rfl rfl) ?_ | refine al_y rfl rfl (y_moveG rfl rfl) ?_
  first | refine al_maybe rfl rfl rfl (fun hg => y_moveV rfl rfl) ?_ | refine al_maybe rfl rfl rfl (fun hg => y_moveP rfl rfl) ?_ | refine al_maybe rfl rfl rfl (fun hg => y_moveS rfl rfl) ?_ | refine al_maybe rfl rfl rfl (fun hg => y_moveG rfl rfl) ?_ | refine al_maybe (x := .pub (.tup [])) rfl rfl rfl (fun hg => absurd hg (by decide)) ?_
  first | refine al_maybe rfl rfl rfl (fun hg => y_callF (av := [_, _]) rfl ⟨(by first | exact (if_pos hg) | exact rfl), rfl, trivial⟩ (f103 w lokR 104 [] [] lokR_hi (fun r => f104 r))) ?_ | refine al_maybe rfl rfl rfl (fun hg => y_callF (av := [_, _]) rfl ⟨(by first | exact rfl | exact rfl), rfl, trivial⟩ (f103 w lokR 104 [] [] lokR_hi (fun r => f104 r))) ?_ | refine al_maybe (x := .pub (.tup [])) rfl rfl rfl (fun hg => absurd hg (by decide)) ?_
  first | refine al_maybe rfl rfl rfl (fun hg => y_not rfl (by first | exact rfl | exact if_pos hg)) ?_ | refine al_maybe rfl rfl rfl (fun hg => y_not rfl rfl) ?_ | refine al_maybe (x := .pub (.tup [])) rfl rfl rfl (fun hg => absurd hg (by decide)) ?_
  first | refine al_y rfl rfl (y_and rfl rfl rfl rfl) ?_ | refine al_y rfl rfl (y_or rfl rfl rfl rfl) ?_ | refine al_y rfl rfl (y_pick rfl rfl (fun _ => rfl) (fun _ => rfl)) ?_ | refine al_y rfl rfl (y_pick rfl rfl (fun _ => rfl) (fun h => absurd h (by decide))) ?_ | refine al_y rfl rfl (y_pick rfl rfl (fun h => absurd h (by decide)) (fun _ => rfl)) ?_
  first | refine al_y rfl rfl (y_moveV rfl rfl) ?_ | refine al_y rfl rfl (y_moveP rfl rfl) ?_ | refine al_y rfl rfl (y_moveS rfl rfl) ?_ | refine al_y rfl rfl (y_moveG rfl rfl) ?_
  first | refine al_maybe rfl rfl rfl (fun hg => y_moveV rfl rfl) ?_ | refine al_maybe rfl rfl rfl (fun hg => y_moveP rfl rfl) ?_ | refine al_maybe rfl rfl rfl (fun hg => y_moveS rfl rfl) ?_ | refine al_maybe rfl rfl rfl (fun hg => y_moveG rfl rfl) ?_ | refine al_maybe (x := .pub (.tup [])) rfl rfl rfl (fun hg => absurd hg (by decide)) ?_
  first | refine al_maybe rfl rfl rfl (fun hg => y_callF (av := [_, _, _]) rfl ⟨(by first | exact (if_pos hg) | exact rfl), rfl, rfl, trivial⟩ (f107 _ _ _)) ?_ | refine al_maybe rfl rfl rfl (fun hg => y_callF (av := [_, _, _]) rfl ⟨(by first | exact rfl | exact rfl), rfl, rfl, trivial⟩ (f107 _ _ _)) ?_ | refine al_maybe (x := .pub (.tup [])) rfl rfl rfl (fun hg => absurd hg (by decide)) ?_
  first | refine al_maybe rfl rfl rfl (fun hg => y_not rfl (by first | exact rfl | exact if_pos hg)) ?_ | refine al_maybe rfl rfl rfl (fun hg => y_not rfl rfl) ?_ | refine al_maybe (x := .pub (.tup [])) rfl rfl rfl (fun hg => absurd hg (by decide)) ?_
  first | refine al_y rfl rfl (y_and rfl rfl rfl rfl) ?_ | refine al_y rfl rfl (y_or rfl rfl rfl rfl) ?_ | refine al_y rfl rfl (y_pick rfl rfl (fun _ => rfl) (fun _ => rfl)) ?_ | refine al_y rfl rfl (y_pick rfl rfl (fun _ => rfl) (fun h => absurd h (by decide))) ?_ | refine al_y rfl rfl (y_pick rfl rfl (fun h => absurd h (by decide)) (fun _ => rfl)) ?_
  refine al_nil ?_
  refine qt_normal ?_
  refine ac_cond rfl (fun h0 => ?_) (fun h0 => ?_)
  · skip
    refine ac_seq ?_
    refine ac_region ?_
    first | refine al_y rfl rfl (y_assignV rfl rfl) ?_ | refine al_y rfl rfl (y_assignP rfl rfl) ?_ | refine al_y rfl rfl (y_assignS rfl rfl) ?_ | refine al_y rfl rfl (y_assignG rfl rfl) ?_
    first | refine al_y rfl rfl (y_assignV rfl rfl) ?_ | refine al_y rfl rfl (y_assignP rfl rfl) ?_ | refine al_y rfl rfl (y_assignS rfl rfl) ?_ | refine al_y rfl rfl (y_assignG rfl rfl) ?_
    refine al_nil ?_
    refine qt_normal ?_
    refine ac_ret ?_
    refine qt_ret ?_
    exact ⟨.inr rfl, ⟨_, rfl, ⟨_, _, rfl, AVle.nil, ⟨_, _, rfl, AVle.refl _, rfl⟩⟩⟩⟩
  · skip
    exfalso; cases h1 : bookB l <;> cases h2 : ofB lokR w <;> cases h3 : inB miss 0 5 <;> simp_all

/-- wire.Look -/
theorem f46_ok (l : List Ent) (w : List UInt8) (miss : Int) (hl : l.length ≤ 1000) (h1b : bookB l = true) (h2b : ofB lokR w = true) (h3b : inB miss 0 5 = true) : ACall Tryz.prog G 46 [eBk l, eS w, ei miss] (.tup [eInts (lkA w miss l), ei (if (lkA w miss l).length = 0 then 5 else 0)]) := by
  have hw5 := ofB_len h2b
  have hm5 := inB_iff.1 h3b
  refine acall_of Tryz.func46 rfl (by kernel_rfl) rfl ?_
  refine ac_seq ?_
  refine ac_region ?_
  first | refine al_y rfl rfl (y_assignV rfl rfl) ?_ | refine al_y rfl rfl (y_assignP rfl rfl) ?_ | refine al_y rfl rfl (y_assignS rfl rfl) ?_ | refine al_y rfl rfl (y_assignG rfl rfl) ?_
  first | refine al_y rfl rfl (y_assignV rfl rfl) ?_ | refine al_y rfl rfl (y_assignP rfl rfl) ?_ | refine al_y rfl rfl (y_assignS rfl rfl) ?_ | refine al_y rfl rfl (y_assignG rfl rfl) ?_
  refine al_nil ?_
  refine qt_normal ?_
  refine ac_seq ?_
  refine ac_seq ?_
  refine ac_region ?_
  first | refine al_y rfl rfl (y_moveV rfl rfl) ?_ | refine al_y rfl rfl (y_moveP rfl rfl) ?_ | refine al_y rfl rfl (y_moveS rfl rfl) ?_ | refine al_y rfl rfl (y_moveG rfl rfl) ?_
  refine al_y rfl rfl (y_callF (av := [_]) rfl ⟨rfl, trivial⟩ (f102 l hl)) ?_
  refine al_y rfl rfl (y_not rfl rfl) ?_
  first | refine al_y rfl rfl (y_moveV rfl rfl) ?_ | refine al_y rfl rfl (y_moveP rfl rfl) ?_ | refine al_y rfl rfl (y_moveS rfl rfl) ?_ | refine al_y rfl rfl (y_moveG rfl rfl) ?_
  first | refine al_maybe rfl rfl rfl (fun hg => y_moveV rfl rfl) ?_ | refine al_maybe rfl rfl rfl (fun hg => y_moveP rfl rfl) ?_ | refine al_maybe rfl rfl rfl (fun hg => y_moveS rfl rfl) ?_ | refine al_maybe rfl rfl rfl (fun hg => y_moveG rfl rfl) ?_ | refine al_maybe (x := .pub (.tup [])) rfl rfl rfl (fun hg => absurd hg (by decide)) ?_
  first | refine al_maybe rfl rfl rfl (fun hg => y_callF (av := [_, _]) rfl ⟨(by first | exact (if_pos hg) | exact rfl), rfl, trivial⟩ (f103 w lokR 104 [] [] lokR_hi (fun r => f104 r))) ?_ | refine al_maybe rfl rfl rfl (fun hg => y_callF (av := [_, _]) rfl ⟨(by first | exact rfl | exact rfl), rfl, trivial⟩ (f103 w lokR 104 [] [] lokR_hi (fun r => f104 r))) ?_ | refine al_maybe (x := .pub (.tup [])) rfl rfl rfl (fun hg => absurd hg (by decide)) ?_
  first | refine al_maybe rfl rfl rfl (fun hg => y_not rfl (by first | exact rfl | exact if_pos hg)) ?_ | refine al_maybe rfl rfl rfl (fun hg => y_not rfl rfl) ?_ | refine al_maybe (x := .pub (.tup [])) rfl rfl rfl (fun hg => absurd hg (by decide)) ?_
  first | refine al_y rfl rfl (y_and rfl rfl rfl rfl) ?_ | refine al_y rfl rfl (y_or rfl rfl rfl rfl) ?_ | refine al_y rfl rfl (y_pick rfl rfl (fun _ => rfl) (fun _ => rfl)) ?_ | refine al_y rfl rfl (y_pick rfl rfl (fun _ => rfl) (fun h => absurd h (by decide))) ?_ | refine al_y rfl rfl (y_pick rfl rfl (fun h => absurd h (by decide)) (fun _ => rfl)) ?_
  first | refine al_y rfl rfl (y_moveV rfl rfl) ?_ | refine al_y rfl rfl (y_moveP rfl rfl) ?_ | refine al_y rfl rfl (y_moveS rfl rfl) ?_ | refine al_y rfl rfl (y_moveG rfl rfl) ?_
  first | refine al_maybe rfl rfl rfl (fun hg => y_moveV rfl rfl) ?_ | refine al_maybe rfl rfl rfl (fun hg => y_moveP rfl rfl) ?_ | refine al_maybe rfl rfl rfl (fun hg => y_moveS rfl rfl) ?_ | refine al_maybe rfl rfl rfl (fun hg => y_moveG rfl rfl) ?_ | refine al_maybe (x := .pub (.tup [])) rfl rfl rfl (fun hg => absurd hg (by decide)) ?_
  first | refine al_maybe rfl rfl rfl (fun hg => y_callF (av := [_, _, _]) rfl ⟨(by first | exact (if_pos hg) | exact rfl), rfl, rfl, trivial⟩ (f107 _ _ _)) ?_ | refine al_maybe rfl rfl rfl (fun hg => y_callF (av := [_, _, _]) rfl ⟨(by first | exact rfl | exact rfl), rfl, rfl, trivial⟩ (f107 _ _ _)) ?_ | refine al_maybe (x := .pub (.tup [])) rfl rfl rfl (fun hg => absurd hg (by decide)) ?_
  first | refine al_maybe rfl rfl rfl (fun hg => y_not rfl (by first | exact rfl | exact if_pos hg)) ?_ | refine al_maybe rfl rfl rfl (fun hg => y_not rfl rfl) ?_ | refine al_maybe (x := .pub (.tup [])) rfl rfl rfl (fun hg => absurd hg (by decide)) ?_
  first | refine al_y rfl rfl (y_and rfl rfl rfl rfl) ?_ | refine al_y rfl rfl (y_or rfl rfl rfl rfl) ?_ | refine al_y rfl rfl (y_pick rfl rfl (fun _ => rfl) (fun _ => rfl)) ?_ | refine al_y rfl rfl (y_pick rfl rfl (fun _ => rfl) (fun h => absurd h (by decide))) ?_ | refine al_y rfl rfl (y_pick rfl rfl (fun h => absurd h (by decide)) (fun _ => rfl)) ?_
  refine al_nil ?_
  refine qt_normal ?_
  refine ac_cond rfl (fun h0 => ?_) (fun h0 => ?_)
  · skip
    exfalso; simp [h1b, h2b, h3b] at h0
  · skip
    refine ac_skip ?_
    refine qt_normal ?_
    refine ac_seq ?_
    refine ac_region ?_
    first | refine al_y rfl rfl (y_assignV rfl rfl) ?_ | refine al_y rfl rfl (y_assignP rfl rfl) ?_ | refine al_y rfl rfl (y_assignS rfl rfl) ?_ | refine al_y rfl rfl (y_assignG rfl rfl) ?_
    refine al_nil ?_
    refine qt_normal ?_
    refine ac_seq ?_
    refine ac_seq ?_
    refine ac_region ?_
    first | refine al_y rfl rfl (y_moveV rfl rfl) ?_ | refine al_y rfl rfl (y_moveP rfl rfl) ?_ | refine al_y rfl rfl (y_moveS rfl rfl) ?_ | refine al_y rfl rfl (y_moveG rfl rfl) ?_
    first | refine al_y rfl rfl (y_len rfl rfl rfl Tryz.underlying63) ?_ | refine al_y rfl rfl (y_len_psl rfl rfl rfl (by simp) Tryz.underlying63) ?_ | refine al_y rfl rfl (y_len_nil rfl rfl Tryz.underlying63) ?_
    first | refine al_y rfl rfl (y_moveV rfl rfl) ?_ | refine al_y rfl rfl (y_moveP rfl rfl) ?_ | refine al_y rfl rfl (y_moveS rfl rfl) ?_ | refine al_y rfl rfl (y_moveG rfl rfl) ?_
    refine al_nil ?_
    refine qt_normal ?_
    refine ac_block ?_
    refine ac_weak (weak_nil 8 rfl) ?_
    refine ac_loop (ι := { q : Nat // q ≤ l.length }) (fun q => ⟨Tryz.f46.ntmps, frL [(1, SL w), (2, I miss), (8, .psl 0 (lkN w miss l q.1).length), (27, .pub (eBk l)), (28, I (l.length : Int)), (29, I (q.1 : Int))], [.row ((lkN w miss l q.1).map fun n => [I n])]⟩) (fun q => l.length - q.1) (⟨0, by omega⟩) ?_ ?_
    · exact weak_frM _ ⟨rfl, rfl, rfl, rfl, (congrArg (fun x : Nat => I (x : Int)) (List.length_map _)), rfl, trivial⟩ (rfl)
    · rintro ⟨q, hq⟩
      dsimp only
      refine ac_seq ?_
      refine ac_region ?_
      refine al_y rfl rfl (y_lss rfl rfl rfl) ?_
      refine al_nil ?_
      refine qt_normal ?_
      refine ac_seq ?_
      refine ac_cond rfl (fun h1 => ?_) (fun h1 => ?_)
      · skip
        have hlt : q < l.length := by simpa using h1
        have hwl := bk_len h1b hlt
        have hnl := lkN_len w miss l q
        refine ac_skip ?_
        refine qt_normal ?_
        refine ac_seq ?_
        refine ac_block ?_
        refine ac_seq ?_
        refine ac_region ?_
        first | refine al_y rfl rfl (y_moveV rfl rfl) ?_ | refine al_y rfl rfl (y_moveP rfl rfl) ?_ | refine al_y rfl rfl (y_moveS rfl rfl) ?_ | refine al_y rfl rfl (y_moveG rfl rfl) ?_
        first | refine al_y rfl rfl (y_indexAddr rfl rfl rfl slc63 (by omega) (ent_at hlt) ent_len) ?_ | refine al_y rfl rfl (y_indexAddr_psl rfl rfl rfl rfl rfl slc63 (by omega) (ent_at hlt) ent_len) ?_
        first | refine al_y rfl rfl (y_loadN rfl rfl ty152 (by exact Nat.le_of_ble_eq_true rfl)) ?_ | refine al_y rfl rfl (y_load_ppA (cs := [_, _, _]) rfl rfl rfl rfl rfl (by exact Nat.le_of_ble_eq_true rfl) rfl ty152) ?_ | refine al_y rfl rfl (y_load_ppN rfl rfl rfl rfl rfl (by exact Nat.le_of_ble_eq_true rfl) rfl ty152) ?_
        refine al_pair2  rfl rfl rfl rfl rfl rfl rfl rfl (y_assignV rfl rfl) rfl rfl rfl zv152 ty152 rfl (by rfl) (cE_agg rfl) rfl ?_
        refine al_nil ?_
        refine qt_normal ?_
        refine ac_seq ?_
        refine ac_region ?_
        first | refine al_y rfl rfl (y_assignV rfl rfl) ?_ | refine al_y rfl rfl (y_assignP rfl rfl) ?_ | refine al_y rfl rfl (y_assignS rfl rfl) ?_ | refine al_y rfl rfl (y_assignG rfl rfl) ?_
        refine al_nil ?_
        refine qt_normal ?_
        refine ac_seq ?_
        refine ac_seq ?_
        refine ac_region ?_
        first | refine al_y rfl rfl (y_moveV rfl rfl) ?_ | refine al_y rfl rfl (y_moveP rfl rfl) ?_ | refine al_y rfl rfl (y_moveS rfl rfl) ?_ | refine al_y rfl rfl (y_moveG rfl rfl) ?_
        refine al_range rfl rfl rfl rfl Tryz.underlying9 (fun itb => ?_)
        refine al_nil ?_
        refine qt_normal ?_
        refine ac_block ?_
        refine ac_loop (ι := { k : Nat // k ≤ w.length }) (fun k => ⟨⟨Tryz.f46.ntmps, [], [], false, [(itb, .stringIter ⟨w.toArray⟩ k.1)]⟩, frL [(1, SL w), (2, I miss), (8, .psl 0 (lkN w miss l q).length), (27, .pub (eBk l)), (28, I (l.length : Int)), (29, I (q : Int)), (9, I (q : Int)), (10, .pub (.ptr (eEnt l[q]))), (11, I (msK w l[q].word k.1)), (35, itP itb)], [.row ((lkN w miss l q).map fun n => [I n])]⟩) (fun k => w.length - k.1) (⟨0, by omega⟩) ?_ ?_
        · exact weak_frM _ ⟨rfl, rfl, rfl, rfl, rfl, rfl, rfl, rfl, rfl, rfl, trivial⟩ (rfl)
        · rintro ⟨k, hk⟩
          dsimp only
          refine ac_seq ?_
          refine ac_region ?_
          refine al_next rfl rfl rfl rfl rfl rfl ?_
          refine al_y rfl rfl (y_extract rfl rfl (nxT0 _ _)) ?_
          refine al_nil ?_
          refine qt_normal ?_
          refine ac_seq ?_
          refine ac_cond rfl (fun h2 => ?_) (fun h2 => ?_)
          · skip
            have hlt0 : k < (⟨w.toArray⟩ : ByteArray).size := by simpa using h2
            have hkl : k < w.length := by simpa [ByteArray.size] using hlt0
            have hke : k < l[q].word.length := by omega
            have hat := ofB_at h2b hkl
            have hlow := kind_low lokR_hi hat
            have hnx := nxK_low hkl hlow
            have hdec := dec_low hkl hlow
            have hb1 := msK_bd w l[q].word k
            refine ac_skip ?_
            refine qt_normal ?_
            refine ac_block ?_
            refine ac_seq ?_
            refine ac_region ?_
            refine al_y rfl rfl (y_extract rfl rfl (nxT1 hlt0)) ?_
            refine al_y rfl rfl (y_extract rfl rfl (nxT2 hlt0)) ?_
            first | refine al_y rfl rfl (y_assignV rfl rfl) ?_ | refine al_y rfl rfl (y_assignP rfl rfl) ?_ | refine al_y rfl rfl (y_assignS rfl rfl) ?_ | refine al_y rfl rfl (y_assignG rfl rfl) ?_
            first | refine al_y rfl rfl (y_assignV rfl rfl) ?_ | refine al_y rfl rfl (y_assignP rfl rfl) ?_ | refine al_y rfl rfl (y_assignS rfl rfl) ?_ | refine al_y rfl rfl (y_assignG rfl rfl) ?_
            refine al_nil ?_
            refine qt_normal ?_
            refine ac_seq ?_
            refine ac_draw mixed (by kernel_rfl) rfl ?_
            first | refine aq_y rfl (y_moveV rfl rfl) ?_ | refine aq_y rfl (y_moveP rfl rfl) ?_ | refine aq_y rfl (y_moveS rfl rfl) ?_ | refine aq_y rfl (y_moveG rfl rfl) ?_
            refine aq_y rfl (y_callF (av := [_]) rfl ⟨rfl, trivial⟩ (f106 _)) ?_
            refine aq_y rfl (y_not rfl rfl) ?_
            first | refine aq_y rfl (y_moveV rfl rfl) ?_ | refine aq_y rfl (y_moveP rfl rfl) ?_ | refine aq_y rfl (y_moveS rfl rfl) ?_ | refine aq_y rfl (y_moveG rfl rfl) ?_
            first | refine aq_maybe rfl (fun hg => y_moveV rfl rfl) ?_ | refine aq_maybe rfl (fun hg => y_moveP rfl rfl) ?_ | refine aq_maybe rfl (fun hg => y_moveS rfl rfl) ?_ | refine aq_maybe rfl (fun hg => y_moveG rfl rfl) ?_ | refine aq_maybe (x := .pub (.tup [])) rfl (fun hg => absurd hg (by decide)) ?_
            first | refine aq_maybe rfl (fun hg => y_moveV rfl rfl) ?_ | refine aq_maybe rfl (fun hg => y_moveP rfl rfl) ?_ | refine aq_maybe rfl (fun hg => y_moveS rfl rfl) ?_ | refine aq_maybe rfl (fun hg => y_moveG rfl rfl) ?_ | refine aq_maybe (x := .pub (.tup [])) rfl (fun hg => absurd hg (by decide)) ?_
            first | refine aq_maybe rfl (fun hg => y_index_SL rfl (by first | exact rfl | exact if_pos hg) (by first | exact rfl | exact if_pos hg) Tryz.underlying9 (by omega) (by rw [Int.toNat_natCast]; exact List.getElem?_eq_getElem hkl)) ?_ | refine aq_maybe rfl (fun hg => y_index_SL rfl rfl rfl Tryz.underlying9 (by omega) (by rw [Int.toNat_natCast]; exact List.getElem?_eq_getElem hkl)) ?_ | refine aq_maybe (x := .pub (.tup [])) rfl (fun hg => absurd hg (by decide)) ?_
            first | refine aq_maybe rfl (fun hg => y_fieldAddr rfl rfl fld152_0) ?_ | refine aq_maybe rfl (fun hg => y_fieldAddr_pp rfl rfl rfl rfl fld152_0) ?_ | refine aq_maybe (x := .pub (.tup [])) rfl (fun hg => absurd hg (by decide)) ?_
            first | refine aq_maybe rfl (fun hg => y_load1 rfl (by first | exact rfl | exact if_pos hg) rfl ty9) ?_ | refine aq_maybe rfl (fun hg => y_load_pp1 rfl (by first | exact rfl | exact if_pos hg) rfl rfl rfl rfl ty9) ?_ | refine aq_maybe rfl (fun hg => y_load1 rfl rfl rfl ty9) ?_ | refine aq_maybe rfl (fun hg => y_load_pp1 rfl rfl rfl rfl rfl rfl ty9) ?_ | refine aq_maybe (x := .pub (.tup [])) rfl (fun hg => absurd hg (by decide)) ?_
            first | refine aq_maybe rfl (fun hg => y_moveV rfl rfl) ?_ | refine aq_maybe rfl (fun hg => y_moveP rfl rfl) ?_ | refine aq_maybe rfl (fun hg => y_moveS rfl rfl) ?_ | refine aq_maybe rfl (fun hg => y_moveG rfl rfl) ?_ | refine aq_maybe (x := .pub (.tup [])) rfl (fun hg => absurd hg (by decide)) ?_
            first | refine aq_maybe rfl (fun hg => y_index_SL rfl (by first | exact rfl | exact if_pos hg) (by first | exact rfl | exact if_pos hg) Tryz.underlying9 (by omega) (by rw [Int.toNat_natCast]; exact List.getElem?_eq_getElem hke)) ?_ | refine aq_maybe rfl (fun hg => y_index_SL rfl rfl rfl Tryz.underlying9 (by omega) (by rw [Int.toNat_natCast]; exact List.getElem?_eq_getElem hke)) ?_ | refine aq_maybe (x := .pub (.tup [])) rfl (fun hg => absurd hg (by decide)) ?_
            first | refine aq_maybe rfl (fun hg => y_neq rfl (by first | exact rfl | exact if_pos hg) (by first | exact rfl | exact if_pos hg)) ?_ | refine aq_maybe rfl (fun hg => y_neq rfl rfl rfl) ?_ | refine aq_maybe (x := .pub (.tup [])) rfl (fun hg => absurd hg (by decide)) ?_
            first | refine aq_y rfl (y_and rfl rfl rfl rfl) ?_ | refine aq_y rfl (y_or rfl rfl rfl rfl) ?_ | refine aq_y rfl (y_pick rfl rfl (fun _ => rfl) (fun _ => rfl)) ?_ | refine aq_y rfl (y_pick rfl rfl (fun _ => rfl) (fun h => absurd h (by decide))) ?_ | refine aq_y rfl (y_pick rfl rfl (fun h => absurd h (by decide)) (fun _ => rfl)) ?_
            refine aq_nil ?_
            refine qt_normal ?_
            refine ac_cond rfl (fun h3 => ?_) (fun h3 => ?_)
            · skip
              have hst : msK w l[q].word (k + 1) = msK w l[q].word k + 1 := msK_yes hkl hke (by have h := h3; simp only [hdec, holR] at h; simp at h; exact ⟨by omega, fun e => h.2 (by rw [e])⟩)
              refine ac_region ?_
              first | refine al_y rfl rfl (y_moveV rfl rfl) ?_ | refine al_y rfl rfl (y_moveP rfl rfl) ?_ | refine al_y rfl rfl (y_moveS rfl rfl) ?_ | refine al_y rfl rfl (y_moveG rfl rfl) ?_
              refine al_y rfl rfl (y_add rfl rfl rfl ⟨(by omega), (by omega)⟩) ?_
              first | refine al_y rfl rfl (y_assignV rfl rfl) ?_ | refine al_y rfl rfl (y_assignP rfl rfl) ?_ | refine al_y rfl rfl (y_assignS rfl rfl) ?_ | refine al_y rfl rfl (y_assignG rfl rfl) ?_
              refine al_nil ?_
              refine qb_normal ?_
              exact ⟨⟨k + 1, by omega⟩, by dsimp only; omega, weak_frN (congrArg (fun z => (⟨Tryz.f46.ntmps, [], [], false, [(itb, Obj.stringIter ⟨w.toArray⟩ z)]⟩ : NS)) hnx) _ ⟨rfl, rfl, rfl, rfl, rfl, rfl, rfl, rfl, (congrArg (fun x : Int => I x) (by rw [hst])), rfl, trivial⟩ rfl⟩
            · skip
              have hst : msK w l[q].word (k + 1) = msK w l[q].word k := msK_no hkl hke (by intro hc; have h := h3; simp only [hdec, holR] at h; simp at h; exact hc.2 (u8_int.1 (h (by omega))))
              refine ac_skip ?_
              refine qb_normal ?_
              exact ⟨⟨k + 1, by omega⟩, by dsimp only; omega, weak_frN (congrArg (fun z => (⟨Tryz.f46.ntmps, [], [], false, [(itb, Obj.stringIter ⟨w.toArray⟩ z)]⟩ : NS)) hnx) _ ⟨rfl, rfl, rfl, rfl, rfl, rfl, rfl, rfl, (congrArg (fun x : Int => I x) (by rw [hst])), rfl, trivial⟩ rfl⟩
          · skip
            have hge : w.length ≤ k := by simpa [ByteArray.size] using h2
            have hms := msT_at (e := l[q].word) hk (.inl hge)
            refine ac_exit ?_
            refine qt_exit ?_
            refine qt_exit ?_
            refine qb_exit ?_
            refine qt_normal ?_
            refine ac_seq ?_
            refine ac_weak weak_drop ?_
            refine ac_region ?_
            first | refine al_y rfl rfl (y_moveV rfl rfl) ?_ | refine al_y rfl rfl (y_moveP rfl rfl) ?_ | refine al_y rfl rfl (y_moveS rfl rfl) ?_ | refine al_y rfl rfl (y_moveG rfl rfl) ?_
            first | refine al_y rfl rfl (y_moveV rfl rfl) ?_ | refine al_y rfl rfl (y_moveP rfl rfl) ?_ | refine al_y rfl rfl (y_moveS rfl rfl) ?_ | refine al_y rfl rfl (y_moveG rfl rfl) ?_
            refine al_y rfl rfl (y_leq rfl rfl rfl) ?_
            refine al_nil ?_
            refine qt_normal ?_
            refine ac_cond rfl (fun h4 => ?_) (fun h4 => ?_)
            · skip
              have hst := lkN_yes (w := w) (miss := miss) hlt (by simpa [hms] using h4)
              refine ac_region ?_
              first | refine al_y rfl rfl (y_moveV rfl rfl) ?_ | refine al_y rfl rfl (y_moveP rfl rfl) ?_ | refine al_y rfl rfl (y_moveS rfl rfl) ?_ | refine al_y rfl rfl (y_moveG rfl rfl) ?_
              first | refine al_y rfl rfl (y_moveV rfl rfl) ?_ | refine al_y rfl rfl (y_moveP rfl rfl) ?_ | refine al_y rfl rfl (y_moveS rfl rfl) ?_ | refine al_y rfl rfl (y_moveG rfl rfl) ?_
              refine al_y rfl rfl (y_buildSlice (size := 1) (rows := [[_]]) rfl Tryz.underlying23 ti3 rfl (by decide) rfl (by decide) ⟨_, _, rfl, (by first | exact cE_v rfl | exact cE_sl rfl | exact cE_ptr rfl | exact cE_agg rfl | exact cE_psl rfl rfl (by simp) | exact cE_mix rfl | exact cE_fn rfl | exact cE_ifc rfl), rfl⟩ (by rfl) (by simp [ofV]) rfl (by simp)) ?_
              first | refine al_m rfl (m_appendN rfl rfl rfl rfl rfl el23 (by simp) (by simp; omega) (by unfold maxLen; simp; omega)) ?_ | refine al_m rfl (m_append rfl rfl rfl rfl (by simp) rfl el23 (by intro r hr; obtain ⟨n, _, rfl⟩ := List.mem_map.1 hr; rfl) (by simp) (by simp; omega) (by unfold maxLen; simp; omega)) ?_
              first | refine al_y rfl rfl (y_assignV rfl rfl) ?_ | refine al_y rfl rfl (y_assignP rfl rfl) ?_ | refine al_y rfl rfl (y_assignS rfl rfl) ?_ | refine al_y rfl rfl (y_assignG rfl rfl) ?_
              refine al_nil ?_
              refine qb_normal ?_
              refine qt_normal ?_
              refine ac_region ?_
              refine al_y rfl rfl (y_add rfl rfl rfl ⟨(by omega), (by omega)⟩) ?_
              first | refine al_y rfl rfl (y_moveV rfl rfl) ?_ | refine al_y rfl rfl (y_moveP rfl rfl) ?_ | refine al_y rfl rfl (y_moveS rfl rfl) ?_ | refine al_y rfl rfl (y_moveG rfl rfl) ?_
              refine al_nil ?_
              exact ⟨⟨q + 1, by omega⟩, by dsimp only; omega, (by refine weak_frM (mem' := [.row ((lkN w miss l (q + 1)).map fun n => [I n])]) _ ?_ ?_; exact ⟨rfl, rfl, (congrArg (fun x : Nat => EV.psl 0 x) (by simp only [hst, List.length_append, List.length_singleton, List.map_append, List.map_cons, List.map_nil])), rfl, rfl, rfl, trivial⟩; exact congrArg (fun z => [PO.row z]) (by simp only [hst, List.length_append, List.length_singleton, List.map_append, List.map_cons, List.map_nil]))⟩
            · skip
              have hst := lkN_no (w := w) (miss := miss) hlt (by simpa [hms] using h4)
              refine ac_skip ?_
              refine qb_normal ?_
              refine qt_normal ?_
              refine ac_region ?_
              refine al_y rfl rfl (y_add rfl rfl rfl ⟨(by omega), (by omega)⟩) ?_
              first | refine al_y rfl rfl (y_moveV rfl rfl) ?_ | refine al_y rfl rfl (y_moveP rfl rfl) ?_ | refine al_y rfl rfl (y_moveS rfl rfl) ?_ | refine al_y rfl rfl (y_moveG rfl rfl) ?_
              refine al_nil ?_
              exact ⟨⟨q + 1, by omega⟩, by dsimp only; omega, (by refine weak_frM (mem' := [.row ((lkN w miss l (q + 1)).map fun n => [I n])]) _ ?_ ?_; exact ⟨rfl, rfl, (congrArg (fun x : Nat => EV.psl 0 x) (by simp only [hst, List.length_append, List.length_singleton, List.map_append, List.map_cons, List.map_nil])), rfl, rfl, rfl, trivial⟩; exact congrArg (fun z => [PO.row z]) (by simp only [hst, List.length_append, List.length_singleton, List.map_append, List.map_cons, List.map_nil]))⟩
      · skip
        have hge : l.length ≤ q := by simpa using h1
        have hk2 : q = l.length := by omega
        subst hk2
        refine ac_exit ?_
        refine qt_exit ?_
        refine qt_exit ?_
        refine qb_exit ?_
        refine qt_normal ?_
        refine ac_seq ?_
        refine ac_seq ?_
        refine ac_region ?_
        first | refine al_y rfl rfl (y_moveV rfl rfl) ?_ | refine al_y rfl rfl (y_moveP rfl rfl) ?_ | refine al_y rfl rfl (y_moveS rfl rfl) ?_ | refine al_y rfl rfl (y_moveG rfl rfl) ?_
        first | refine al_y rfl rfl (y_len rfl rfl rfl Tryz.underlying23) ?_ | refine al_y rfl rfl (y_len_psl rfl rfl rfl (by simp) Tryz.underlying23) ?_ | refine al_y rfl rfl (y_len_nil rfl rfl Tryz.underlying23) ?_
        refine al_y rfl rfl (y_eql rfl rfl rfl) ?_
        refine al_nil ?_
        refine qt_normal ?_
        refine ac_cond rfl (fun h5 => ?_) (fun h5 => ?_)
        · skip
          have hz : (lkA w miss l).length = 0 := by simpa [lkA] using h5
          have hz2 : lkA w miss l = [] := List.eq_nil_of_length_eq_zero hz
          refine ac_seq ?_
          refine ac_region ?_
          first | refine al_y rfl rfl (y_assignV rfl rfl) ?_ | refine al_y rfl rfl (y_assignP rfl rfl) ?_ | refine al_y rfl rfl (y_assignS rfl rfl) ?_ | refine al_y rfl rfl (y_assignG rfl rfl) ?_
          first | refine al_y rfl rfl (y_assignV rfl rfl) ?_ | refine al_y rfl rfl (y_assignP rfl rfl) ?_ | refine al_y rfl rfl (y_assignS rfl rfl) ?_ | refine al_y rfl rfl (y_assignG rfl rfl) ?_
          refine al_nil ?_
          refine qt_normal ?_
          refine ac_ret ?_
          refine qt_ret ?_
          exact ⟨.inr rfl, ⟨_, rfl, ⟨_, _, rfl, nil_of (by rw [hz2]; rfl), ⟨_, _, rfl, AVle.of (by rw [if_pos hz]; rfl), rfl⟩⟩⟩⟩
        · skip
          have hz : ¬ (lkA w miss l).length = 0 := by simpa [lkA] using h5
          refine ac_skip ?_
          refine qt_normal ?_
          refine ac_seq ?_
          refine ac_region ?_
          first | refine al_y rfl rfl (y_moveV rfl rfl) ?_ | refine al_y rfl rfl (y_moveP rfl rfl) ?_ | refine al_y rfl rfl (y_moveS rfl rfl) ?_ | refine al_y rfl rfl (y_moveG rfl rfl) ?_
          first | refine al_y rfl rfl (y_assignV rfl rfl) ?_ | refine al_y rfl rfl (y_assignP rfl rfl) ?_ | refine al_y rfl rfl (y_assignS rfl rfl) ?_ | refine al_y rfl rfl (y_assignG rfl rfl) ?_
          first | refine al_y rfl rfl (y_assignV rfl rfl) ?_ | refine al_y rfl rfl (y_assignP rfl rfl) ?_ | refine al_y rfl rfl (y_assignS rfl rfl) ?_ | refine al_y rfl rfl (y_assignG rfl rfl) ?_
          refine al_nil ?_
          refine qt_normal ?_
          refine ac_ret ?_
          exact ⟨.inr rfl, ⟨_, rfl, ⟨_, _, rfl, ⟨((lkA w miss l).map fun n => [.v (.int .i64 n)]), by show some (PO.row _) = some (PO.row _); simp [lkA, Function.comp_def], by simp [lkA], rfl⟩, ⟨_, _, rfl, AVle.of (by rw [if_neg hz]; rfl), rfl⟩⟩⟩⟩

theorem mem_step {l : List Ent} {r : Nat} {w : List UInt8} (h : r < l.length) (h0 : w ∉ (l.take r).map (·.word)) (h1 : l[r].word ≠ w) : w ∉ (l.take (r + 1)).map (·.word) := by
  rw [List.take_succ_eq_append_getElem h, List.map_append, List.mem_append]
  simp only [List.map_cons, List.map_nil, List.mem_singleton]
  exact fun hh => hh.elim h0 (fun e => h1 e.symm)

/-- isobarref02.Book -/
theorem f47 (l : List Ent) (hl : l.length ≤ 1000) (hw : ∀ e ∈ l, e.word.length ≤ 9223372036854775807) : ACall Tryz.prog G 47 [eBk l] (.v (.bool (bookB l))) := by
  refine acall_of Tryz.func47 rfl (by kernel_rfl) rfl ?_
  refine ac_seq ?_
  refine ac_region ?_
  first | refine al_y rfl rfl (y_assignV rfl rfl) ?_ | refine al_y rfl rfl (y_assignP rfl rfl) ?_ | refine al_y rfl rfl (y_assignS rfl rfl) ?_ | refine al_y rfl rfl (y_assignG rfl rfl) ?_
  refine al_nil ?_
  refine qt_normal ?_
  refine ac_seq ?_
  refine ac_seq ?_
  refine ac_region ?_
  first | refine al_y rfl rfl (y_moveV rfl rfl) ?_ | refine al_y rfl rfl (y_moveP rfl rfl) ?_ | refine al_y rfl rfl (y_moveS rfl rfl) ?_ | refine al_y rfl rfl (y_moveG rfl rfl) ?_
  first | refine al_y rfl rfl (y_len rfl rfl rfl Tryz.underlying63) ?_ | refine al_y rfl rfl (y_len_psl rfl rfl rfl (by simp) Tryz.underlying63) ?_ | refine al_y rfl rfl (y_len_nil rfl rfl Tryz.underlying63) ?_
  refine al_y rfl rfl (y_gtr rfl rfl rfl) ?_
  refine al_nil ?_
  refine qt_normal ?_
  refine ac_cond rfl (fun h0 => ?_) (fun h0 => ?_)
  · skip
    have hlong : ¬ l.length ≤ 12 := by simp [eBk] at h0; omega
    refine ac_seq ?_
    refine ac_region ?_
    first | refine al_y rfl rfl (y_assignV rfl rfl) ?_ | refine al_y rfl rfl (y_assignP rfl rfl) ?_ | refine al_y rfl rfl (y_assignS rfl rfl) ?_ | refine al_y rfl rfl (y_assignG rfl rfl) ?_
    refine al_nil ?_
    refine qt_normal ?_
    refine ac_ret ?_
    refine qt_ret ?_
    exact ⟨.inr rfl, AVle.of (by rw [bookB, decide_eq_false hlong, Bool.and_false])⟩
  · skip
    have hsh : l.length ≤ 12 := by simp [eBk] at h0; omega
    refine ac_skip ?_
    refine qt_normal ?_
    refine ac_seq ?_
    refine ac_seq ?_
    refine ac_region ?_
    first | refine al_y rfl rfl (y_assignV rfl rfl) ?_ | refine al_y rfl rfl (y_assignP rfl rfl) ?_ | refine al_y rfl rfl (y_assignS rfl rfl) ?_ | refine al_y rfl rfl (y_assignG rfl rfl) ?_
    refine al_nil ?_
    refine qt_normal ?_
    refine ac_block ?_
    refine ac_loop (ι := { q : Nat // q ≤ l.length ∧ (l.take q).all entB = true ∧ ((l.take q).map (·.word)).Nodup }) (fun q => ⟨Tryz.f47.ntmps, frL [(0, .pub (eBk l)), (3, I (q.1 : Int))], []⟩) (fun q => l.length - q.1) (⟨0, by simp⟩) ?_ ?_
    · exact weak_frM _ ⟨rfl, rfl, trivial⟩ (rfl)
    · rintro ⟨q, hq⟩
      dsimp only
      refine ac_seq ?_
      refine ac_seq ?_
      refine ac_region ?_
      first | refine al_y rfl rfl (y_moveV rfl rfl) ?_ | refine al_y rfl rfl (y_moveP rfl rfl) ?_ | refine al_y rfl rfl (y_moveS rfl rfl) ?_ | refine al_y rfl rfl (y_moveG rfl rfl) ?_
      first | refine al_y rfl rfl (y_moveV rfl rfl) ?_ | refine al_y rfl rfl (y_moveP rfl rfl) ?_ | refine al_y rfl rfl (y_moveS rfl rfl) ?_ | refine al_y rfl rfl (y_moveG rfl rfl) ?_
      first | refine al_y rfl rfl (y_len rfl rfl rfl Tryz.underlying63) ?_ | refine al_y rfl rfl (y_len_psl rfl rfl rfl (by simp) Tryz.underlying63) ?_ | refine al_y rfl rfl (y_len_nil rfl rfl Tryz.underlying63) ?_
      refine al_y rfl rfl (y_lss rfl rfl rfl) ?_
      refine al_nil ?_
      refine qt_normal ?_
      refine ac_cond rfl (fun h1 => ?_) (fun h1 => ?_)
      · skip
        have hlt : q < l.length := by simpa [eBk] using h1
        refine ac_skip ?_
        refine qt_normal ?_
        refine ac_seq ?_
        refine ac_block ?_
        refine ac_seq ?_
        refine ac_seq ?_
        refine ac_region ?_
        first | refine al_y rfl rfl (y_moveV rfl rfl) ?_ | refine al_y rfl rfl (y_moveP rfl rfl) ?_ | refine al_y rfl rfl (y_moveS rfl rfl) ?_ | refine al_y rfl rfl (y_moveG rfl rfl) ?_
        first | refine al_y rfl rfl (y_moveV rfl rfl) ?_ | refine al_y rfl rfl (y_moveP rfl rfl) ?_ | refine al_y rfl rfl (y_moveS rfl rfl) ?_ | refine al_y rfl rfl (y_moveG rfl rfl) ?_
        first | refine al_y rfl rfl (y_indexAddr rfl rfl rfl slc63 (by omega) (ent_at hlt) ent_len) ?_ | refine al_y rfl rfl (y_indexAddr_psl rfl rfl rfl rfl rfl slc63 (by omega) (ent_at hlt) ent_len) ?_
        first | refine al_y rfl rfl (y_fieldAddr rfl rfl fld152_0) ?_ | refine al_y rfl rfl (y_fieldAddr_pp rfl rfl rfl rfl fld152_0) ?_
        first | refine al_y rfl rfl (y_load1 rfl rfl rfl ty9) ?_ | refine al_y rfl rfl (y_load_pp1 rfl rfl rfl rfl rfl rfl ty9) ?_
        refine al_y rfl rfl (y_callF (av := [_]) rfl ⟨rfl, trivial⟩ (f108 l[q].word (hw _ (List.getElem_mem hlt)))) ?_
        refine al_y rfl rfl (y_not rfl rfl) ?_
        first | refine al_y rfl rfl (y_moveV rfl rfl) ?_ | refine al_y rfl rfl (y_moveP rfl rfl) ?_ | refine al_y rfl rfl (y_moveS rfl rfl) ?_ | refine al_y rfl rfl (y_moveG rfl rfl) ?_
        first | refine al_maybe rfl rfl rfl (fun hg => y_moveV rfl rfl) ?_ | refine al_maybe rfl rfl rfl (fun hg => y_moveP rfl rfl) ?_ | refine al_maybe rfl rfl rfl (fun hg => y_moveS rfl rfl) ?_ | refine al_maybe rfl rfl rfl (fun hg => y_moveG rfl rfl) ?_ | refine al_maybe (x := .pub (.tup [])) rfl rfl rfl (fun hg => absurd hg (by decide)) ?_
        first | refine al_maybe rfl rfl rfl (fun hg => y_moveV rfl rfl) ?_ | refine al_maybe rfl rfl rfl (fun hg => y_moveP rfl rfl) ?_ | refine al_maybe rfl rfl rfl (fun hg => y_moveS rfl rfl) ?_ | refine al_maybe rfl rfl rfl (fun hg => y_moveG rfl rfl) ?_ | refine al_maybe (x := .pub (.tup [])) rfl rfl rfl (fun hg => absurd hg (by decide)) ?_
        first | refine al_maybe rfl rfl rfl (fun hg => y_indexAddr rfl (by first | exact rfl | exact if_pos hg) (by first | exact rfl | exact if_pos hg) slc63 (by omega) (ent_at hlt) ent_len) ?_ | refine al_maybe rfl rfl rfl (fun hg => y_indexAddr_psl rfl (by first | exact rfl | exact if_pos hg) (by first | exact rfl | exact if_pos hg) rfl rfl slc63 (by omega) (ent_at hlt) ent_len) ?_ | refine al_maybe rfl rfl rfl (fun hg => y_indexAddr rfl rfl rfl slc63 (by omega) (ent_at hlt) ent_len) ?_ | refine al_maybe rfl rfl rfl (fun hg => y_indexAddr_psl rfl rfl rfl rfl rfl slc63 (by omega) (ent_at hlt) ent_len) ?_ | refine al_maybe (x := .pub (.tup [])) rfl rfl rfl (fun hg => absurd hg (by decide)) ?_
        first | refine al_maybe rfl rfl rfl (fun hg => y_fieldAddr rfl (by first | exact rfl | exact if_pos hg) fld152_1) ?_ | refine al_maybe rfl rfl rfl (fun hg => y_fieldAddr_pp rfl (by first | exact rfl | exact if_pos hg) rfl rfl fld152_1) ?_ | refine al_maybe rfl rfl rfl (fun hg => y_fieldAddr rfl rfl fld152_1) ?_ | refine al_maybe rfl rfl rfl (fun hg => y_fieldAddr_pp rfl rfl rfl rfl fld152_1) ?_ | refine al_maybe (x := .pub (.tup [])) rfl rfl rfl (fun hg => absurd hg (by decide)) ?_
        first | refine al_maybe rfl rfl rfl (fun hg => y_load1 rfl (by first | exact rfl | exact if_pos hg) rfl ty3) ?_ | refine al_maybe rfl rfl rfl (fun hg => y_load_pp1 rfl (by first | exact rfl | exact if_pos hg) rfl rfl rfl rfl ty3) ?_ | refine al_maybe rfl rfl rfl (fun hg => y_load1 rfl rfl rfl ty3) ?_ | refine al_maybe rfl rfl rfl (fun hg => y_load_pp1 rfl rfl rfl rfl rfl rfl ty3) ?_ | refine al_maybe (x := .pub (.tup [])) rfl rfl rfl (fun hg => absurd hg (by decide)) ?_
        first | refine al_maybe rfl rfl rfl (fun hg => y_callF (av := [_, _, _]) rfl ⟨(by first | exact (if_pos hg) | exact rfl), rfl, rfl, trivial⟩ (f93 _ _ _)) ?_ | refine al_maybe rfl rfl rfl (fun hg => y_callF (av := [_, _, _]) rfl ⟨(by first | exact rfl | exact rfl), rfl, rfl, trivial⟩ (f93 _ _ _)) ?_ | refine al_maybe (x := .pub (.tup [])) rfl rfl rfl (fun hg => absurd hg (by decide)) ?_
        first | refine al_maybe rfl rfl rfl (fun hg => y_not rfl (by first | exact rfl | exact if_pos hg)) ?_ | refine al_maybe rfl rfl rfl (fun hg => y_not rfl rfl) ?_ | refine al_maybe (x := .pub (.tup [])) rfl rfl rfl (fun hg => absurd hg (by decide)) ?_
        first | refine al_y rfl rfl (y_and rfl rfl rfl rfl) ?_ | refine al_y rfl rfl (y_or rfl rfl rfl rfl) ?_ | refine al_y rfl rfl (y_pick rfl rfl (fun _ => rfl) (fun _ => rfl)) ?_ | refine al_y rfl rfl (y_pick rfl rfl (fun _ => rfl) (fun h => absurd h (by decide))) ?_ | refine al_y rfl rfl (y_pick rfl rfl (fun h => absurd h (by decide)) (fun _ => rfl)) ?_
        first | refine al_y rfl rfl (y_moveV rfl rfl) ?_ | refine al_y rfl rfl (y_moveP rfl rfl) ?_ | refine al_y rfl rfl (y_moveS rfl rfl) ?_ | refine al_y rfl rfl (y_moveG rfl rfl) ?_
        first | refine al_maybe rfl rfl rfl (fun hg => y_moveV rfl rfl) ?_ | refine al_maybe rfl rfl rfl (fun hg => y_moveP rfl rfl) ?_ | refine al_maybe rfl rfl rfl (fun hg => y_moveS rfl rfl) ?_ | refine al_maybe rfl rfl rfl (fun hg => y_moveG rfl rfl) ?_ | refine al_maybe (x := .pub (.tup [])) rfl rfl rfl (fun hg => absurd hg (by decide)) ?_
        first | refine al_maybe rfl rfl rfl (fun hg => y_moveV rfl rfl) ?_ | refine al_maybe rfl rfl rfl (fun hg => y_moveP rfl rfl) ?_ | refine al_maybe rfl rfl rfl (fun hg => y_moveS rfl rfl) ?_ | refine al_maybe rfl rfl rfl (fun hg => y_moveG rfl rfl) ?_ | refine al_maybe (x := .pub (.tup [])) rfl rfl rfl (fun hg => absurd hg (by decide)) ?_
        first | refine al_maybe rfl rfl rfl (fun hg => y_indexAddr rfl (by first | exact rfl | exact if_pos hg) (by first | exact rfl | exact if_pos hg) slc63 (by omega) (ent_at hlt) ent_len) ?_ | refine al_maybe rfl rfl rfl (fun hg => y_indexAddr_psl rfl (by first | exact rfl | exact if_pos hg) (by first | exact rfl | exact if_pos hg) rfl rfl slc63 (by omega) (ent_at hlt) ent_len) ?_ | refine al_maybe rfl rfl rfl (fun hg => y_indexAddr rfl rfl rfl slc63 (by omega) (ent_at hlt) ent_len) ?_ | refine al_maybe rfl rfl rfl (fun hg => y_indexAddr_psl rfl rfl rfl rfl rfl slc63 (by omega) (ent_at hlt) ent_len) ?_ | refine al_maybe (x := .pub (.tup [])) rfl rfl rfl (fun hg => absurd hg (by decide)) ?_
        first | refine al_maybe rfl rfl rfl (fun hg => y_fieldAddr rfl (by first | exact rfl | exact if_pos hg) fld152_2) ?_ | refine al_maybe rfl rfl rfl (fun hg => y_fieldAddr_pp rfl (by first | exact rfl | exact if_pos hg) rfl rfl fld152_2) ?_ | refine al_maybe rfl rfl rfl (fun hg => y_fieldAddr rfl rfl fld152_2) ?_ | refine al_maybe rfl rfl rfl (fun hg => y_fieldAddr_pp rfl rfl rfl rfl fld152_2) ?_ | refine al_maybe (x := .pub (.tup [])) rfl rfl rfl (fun hg => absurd hg (by decide)) ?_
        first | refine al_maybe rfl rfl rfl (fun hg => y_load1 rfl (by first | exact rfl | exact if_pos hg) rfl ty3) ?_ | refine al_maybe rfl rfl rfl (fun hg => y_load_pp1 rfl (by first | exact rfl | exact if_pos hg) rfl rfl rfl rfl ty3) ?_ | refine al_maybe rfl rfl rfl (fun hg => y_load1 rfl rfl rfl ty3) ?_ | refine al_maybe rfl rfl rfl (fun hg => y_load_pp1 rfl rfl rfl rfl rfl rfl ty3) ?_ | refine al_maybe (x := .pub (.tup [])) rfl rfl rfl (fun hg => absurd hg (by decide)) ?_
        first | refine al_maybe rfl rfl rfl (fun hg => y_callF (av := [_, _, _]) rfl ⟨(by first | exact (if_pos hg) | exact rfl), rfl, rfl, trivial⟩ (f93 _ _ _)) ?_ | refine al_maybe rfl rfl rfl (fun hg => y_callF (av := [_, _, _]) rfl ⟨(by first | exact rfl | exact rfl), rfl, rfl, trivial⟩ (f93 _ _ _)) ?_ | refine al_maybe (x := .pub (.tup [])) rfl rfl rfl (fun hg => absurd hg (by decide)) ?_
        first | refine al_maybe rfl rfl rfl (fun hg => y_not rfl (by first | exact rfl | exact if_pos hg)) ?_ | refine al_maybe rfl rfl rfl (fun hg => y_not rfl rfl) ?_ | refine al_maybe (x := .pub (.tup [])) rfl rfl rfl (fun hg => absurd hg (by decide)) ?_
        first | refine al_y rfl rfl (y_and rfl rfl rfl rfl) ?_ | refine al_y rfl rfl (y_or rfl rfl rfl rfl) ?_ | refine al_y rfl rfl (y_pick rfl rfl (fun _ => rfl) (fun _ => rfl)) ?_ | refine al_y rfl rfl (y_pick rfl rfl (fun _ => rfl) (fun h => absurd h (by decide))) ?_ | refine al_y rfl rfl (y_pick rfl rfl (fun h => absurd h (by decide)) (fun _ => rfl)) ?_
        refine al_nil ?_
        refine qt_normal ?_
        refine ac_cond rfl (fun h2 => ?_) (fun h2 => ?_)
        · skip
          have hno : bkE l = false := bkE_no hlt (fun h => by simp only [entB, Bool.and_eq_true] at h; simp only [h.1.1.1, h.1.1.2, h.1.2, Bool.not_true, Bool.or_false, Bool.or_self, Bool.false_eq_true] at h2)
          refine ac_seq ?_
          refine ac_region ?_
          first | refine al_y rfl rfl (y_assignV rfl rfl) ?_ | refine al_y rfl rfl (y_assignP rfl rfl) ?_ | refine al_y rfl rfl (y_assignS rfl rfl) ?_ | refine al_y rfl rfl (y_assignG rfl rfl) ?_
          refine al_nil ?_
          refine qt_normal ?_
          refine ac_ret ?_
          refine qt_ret ?_
          refine qb_ret ?_
          refine qt_ret ?_
          refine qt_ret ?_
          refine qb_ret ?_
          refine qt_ret ?_
          exact ⟨.inr rfl, AVle.of (by rw [bookB, hno]; rfl)⟩
        · skip
          have hent : entB l[q] = true := by simp only [entB]; simp only [Bool.or_eq_false_iff, Bool.not_eq_false'] at h2; simp [h2.1.1, h2.1.2, h2.2]
          refine ac_skip ?_
          refine qt_normal ?_
          refine ac_seq ?_
          refine ac_region ?_
          first | refine al_y rfl rfl (y_assignV rfl rfl) ?_ | refine al_y rfl rfl (y_assignP rfl rfl) ?_ | refine al_y rfl rfl (y_assignS rfl rfl) ?_ | refine al_y rfl rfl (y_assignG rfl rfl) ?_
          refine al_nil ?_
          refine qt_normal ?_
          refine ac_block ?_
          refine ac_loop (ι := { r : Nat // r ≤ q ∧ l[q].word ∉ (l.take r).map (·.word) }) (fun r => ⟨Tryz.f47.ntmps, frL [(0, .pub (eBk l)), (3, I (q : Int)), (4, I (r.1 : Int))], []⟩) (fun r => q - r.1) (⟨0, by simp⟩) ?_ ?_
          · exact weak_frM _ ⟨rfl, rfl, rfl, trivial⟩ (rfl)
          · rintro ⟨r, hr⟩
            dsimp only
            refine ac_seq ?_
            refine ac_seq ?_
            refine ac_region ?_
            first | refine al_y rfl rfl (y_moveV rfl rfl) ?_ | refine al_y rfl rfl (y_moveP rfl rfl) ?_ | refine al_y rfl rfl (y_moveS rfl rfl) ?_ | refine al_y rfl rfl (y_moveG rfl rfl) ?_
            first | refine al_y rfl rfl (y_moveV rfl rfl) ?_ | refine al_y rfl rfl (y_moveP rfl rfl) ?_ | refine al_y rfl rfl (y_moveS rfl rfl) ?_ | refine al_y rfl rfl (y_moveG rfl rfl) ?_
            refine al_y rfl rfl (y_lss rfl rfl rfl) ?_
            refine al_nil ?_
            refine qt_normal ?_
            refine ac_cond rfl (fun h3 => ?_) (fun h3 => ?_)
            · skip
              have hrq : r < q := by simpa using h3
              have hrl : r < l.length := by omega
              refine ac_skip ?_
              refine qt_normal ?_
              refine ac_seq ?_
              refine ac_block ?_
              refine ac_seq ?_
              refine ac_draw mixed (by kernel_rfl) rfl ?_
              first | refine aq_y rfl (y_moveV rfl rfl) ?_ | refine aq_y rfl (y_moveP rfl rfl) ?_ | refine aq_y rfl (y_moveS rfl rfl) ?_ | refine aq_y rfl (y_moveG rfl rfl) ?_
              first | refine aq_y rfl (y_moveV rfl rfl) ?_ | refine aq_y rfl (y_moveP rfl rfl) ?_ | refine aq_y rfl (y_moveS rfl rfl) ?_ | refine aq_y rfl (y_moveG rfl rfl) ?_
              first | refine aq_y rfl (y_indexAddr rfl rfl rfl slc63 (by omega) (ent_at hrl) ent_len) ?_ | refine aq_y rfl (y_indexAddr_psl rfl rfl rfl rfl rfl slc63 (by omega) (ent_at hrl) ent_len) ?_
              first | refine aq_y rfl (y_fieldAddr rfl rfl fld152_0) ?_ | refine aq_y rfl (y_fieldAddr_pp rfl rfl rfl rfl fld152_0) ?_
              first | refine aq_y rfl (y_load1 rfl rfl rfl ty9) ?_ | refine aq_y rfl (y_load_pp1 rfl rfl rfl rfl rfl rfl ty9) ?_
              first | refine aq_y rfl (y_moveV rfl rfl) ?_ | refine aq_y rfl (y_moveP rfl rfl) ?_ | refine aq_y rfl (y_moveS rfl rfl) ?_ | refine aq_y rfl (y_moveG rfl rfl) ?_
              first | refine aq_y rfl (y_moveV rfl rfl) ?_ | refine aq_y rfl (y_moveP rfl rfl) ?_ | refine aq_y rfl (y_moveS rfl rfl) ?_ | refine aq_y rfl (y_moveG rfl rfl) ?_
              first | refine aq_y rfl (y_indexAddr rfl rfl rfl slc63 (by omega) (ent_at hlt) ent_len) ?_ | refine aq_y rfl (y_indexAddr_psl rfl rfl rfl rfl rfl slc63 (by omega) (ent_at hlt) ent_len) ?_
              first | refine aq_y rfl (y_fieldAddr rfl rfl fld152_0) ?_ | refine aq_y rfl (y_fieldAddr_pp rfl rfl rfl rfl fld152_0) ?_
              first | refine aq_y rfl (y_load1 rfl rfl rfl ty9) ?_ | refine aq_y rfl (y_load_pp1 rfl rfl rfl rfl rfl rfl ty9) ?_
              refine aq_y rfl (y_eqlS rfl rfl rfl) ?_
              refine aq_nil ?_
              refine qt_normal ?_
              refine ac_cond rfl (fun h4 => ?_) (fun h4 => ?_)
              · skip
                have hdup : l[r].word = l[q].word := by simpa using h4
                have hno : bkE l = false := bkE_no hlt (fun h => h.2 (List.mem_map.2 ⟨l[r], List.mem_take_iff_getElem.2 ⟨r, by omega, rfl⟩, hdup⟩))
                refine ac_seq ?_
                refine ac_region ?_
                first | refine al_y rfl rfl (y_assignV rfl rfl) ?_ | refine al_y rfl rfl (y_assignP rfl rfl) ?_ | refine al_y rfl rfl (y_assignS rfl rfl) ?_ | refine al_y rfl rfl (y_assignG rfl rfl) ?_
                refine al_nil ?_
                refine qt_normal ?_
                refine ac_ret ?_
                refine qb_ret ?_
                refine qt_ret ?_
                refine qt_ret ?_
                refine qb_ret ?_
                refine qb_ret ?_
                refine qt_ret ?_
                refine qt_ret ?_
                refine qb_ret ?_
                refine qt_ret ?_
                exact ⟨.inr rfl, AVle.of (by rw [bookB, hno]; rfl)⟩
              · skip
                have hdup : l[r].word ≠ l[q].word := by simpa using h4
                refine ac_skip ?_
                refine qb_normal ?_
                refine qt_normal ?_
                refine ac_region ?_
                first | refine al_y rfl rfl (y_moveV rfl rfl) ?_ | refine al_y rfl rfl (y_moveP rfl rfl) ?_ | refine al_y rfl rfl (y_moveS rfl rfl) ?_ | refine al_y rfl rfl (y_moveG rfl rfl) ?_
                refine al_y rfl rfl (y_add rfl rfl rfl ⟨(by omega), (by omega)⟩) ?_
                first | refine al_y rfl rfl (y_assignV rfl rfl) ?_ | refine al_y rfl rfl (y_assignP rfl rfl) ?_ | refine al_y rfl rfl (y_assignS rfl rfl) ?_ | refine al_y rfl rfl (y_assignG rfl rfl) ?_
                refine al_nil ?_
                exact ⟨⟨r + 1, by omega, mem_step hrl hr.2 hdup⟩, by dsimp only; omega, weak_frM _ ⟨rfl, rfl, rfl, trivial⟩ (rfl)⟩
            · skip
              have hrq : r = q := by simp at h3; omega
              subst hrq
              refine ac_exit ?_
              refine qt_exit ?_
              refine qt_exit ?_
              refine qb_exit ?_
              refine qb_normal ?_
              refine qt_normal ?_
              refine ac_region ?_
              first | refine al_y rfl rfl (y_moveV rfl rfl) ?_ | refine al_y rfl rfl (y_moveP rfl rfl) ?_ | refine al_y rfl rfl (y_moveS rfl rfl) ?_ | refine al_y rfl rfl (y_moveG rfl rfl) ?_
              refine al_y rfl rfl (y_add rfl rfl rfl ⟨(by omega), (by omega)⟩) ?_
              first | refine al_y rfl rfl (y_assignV rfl rfl) ?_ | refine al_y rfl rfl (y_assignP rfl rfl) ?_ | refine al_y rfl rfl (y_assignS rfl rfl) ?_ | refine al_y rfl rfl (y_assignG rfl rfl) ?_
              refine al_nil ?_
              exact ⟨⟨r + 1, by omega, all_take hq.2.1 hlt hent, nodup_step hlt hq.2.2 hr.2⟩, by dsimp only; omega, weak_frM _ ⟨rfl, rfl, trivial⟩ (rfl)⟩
      · skip
        have hge : l.length ≤ q := by simpa [eBk] using h1
        refine ac_exit ?_
        refine qt_exit ?_
        refine qt_exit ?_
        refine qb_exit ?_
        refine qt_normal ?_
        refine ac_seq ?_
        refine ac_region ?_
        first | refine al_y rfl rfl (y_assignV rfl rfl) ?_ | refine al_y rfl rfl (y_assignP rfl rfl) ?_ | refine al_y rfl rfl (y_assignS rfl rfl) ?_ | refine al_y rfl rfl (y_assignG rfl rfl) ?_
        refine al_nil ?_
        refine qt_normal ?_
        refine ac_ret ?_
        exact ⟨.inr rfl, AVle.of (by have h1 := hq.2; rw [List.take_of_length_le hge] at h1; rw [bookB, bkE, h1.1, decide_eq_true h1.2, decide_eq_true hsh]; rfl)⟩

/-- isobarref02.Look -/
theorem f49 (l : List Ent) (w : List UInt8) (miss : Int) (hl : l.length ≤ 1000) (hw : w.length ≤ 9223372036854775807) : ACall Tryz.prog G 49 [eBk l, eS w, ei miss] (eInts (lkA w miss l)) := by
  refine acall_of Tryz.func49 rfl (by kernel_rfl) rfl ?_
  refine ac_seq ?_
  refine ac_region ?_
  first | refine al_y rfl rfl (y_assignV rfl rfl) ?_ | refine al_y rfl rfl (y_assignP rfl rfl) ?_ | refine al_y rfl rfl (y_assignS rfl rfl) ?_ | refine al_y rfl rfl (y_assignG rfl rfl) ?_
  refine al_nil ?_
  refine qt_normal ?_
  refine ac_seq ?_
  refine ac_region ?_
  first | refine al_y rfl rfl (y_assignV rfl rfl) ?_ | refine al_y rfl rfl (y_assignP rfl rfl) ?_ | refine al_y rfl rfl (y_assignS rfl rfl) ?_ | refine al_y rfl rfl (y_assignG rfl rfl) ?_
  refine al_nil ?_
  refine qt_normal ?_
  refine ac_seq ?_
  refine ac_seq ?_
  refine ac_region ?_
  first | refine al_y rfl rfl (y_assignV rfl rfl) ?_ | refine al_y rfl rfl (y_assignP rfl rfl) ?_ | refine al_y rfl rfl (y_assignS rfl rfl) ?_ | refine al_y rfl rfl (y_assignG rfl rfl) ?_
  refine al_nil ?_
  refine qt_normal ?_
  refine ac_block ?_
  refine ac_weak (weak_nil 7 rfl) ?_
  refine ac_loop (ι := { q : Nat // q ≤ l.length }) (fun q => ⟨Tryz.f49.ntmps, frL [(0, .pub (eBk l)), (1, SL w), (2, I miss), (7, .psl 0 (lkN w miss l q.1).length), (8, I (q.1 : Int))], [.row ((lkN w miss l q.1).map fun n => [I n])]⟩) (fun q => l.length - q.1) (⟨0, by omega⟩) ?_ ?_
  · exact weak_frM _ ⟨rfl, rfl, rfl, rfl, rfl, trivial⟩ (rfl)
  · rintro ⟨q, hq⟩
    dsimp only
    refine ac_seq ?_
    refine ac_seq ?_
    refine ac_region ?_
    first | refine al_y rfl rfl (y_moveV rfl rfl) ?_ | refine al_y rfl rfl (y_moveP rfl rfl) ?_ | refine al_y rfl rfl (y_moveS rfl rfl) ?_ | refine al_y rfl rfl (y_moveG rfl rfl) ?_
    first | refine al_y rfl rfl (y_moveV rfl rfl) ?_ | refine al_y rfl rfl (y_moveP rfl rfl) ?_ | refine al_y rfl rfl (y_moveS rfl rfl) ?_ | refine al_y rfl rfl (y_moveG rfl rfl) ?_
    first | refine al_y rfl rfl (y_len rfl rfl rfl Tryz.underlying63) ?_ | refine al_y rfl rfl (y_len_psl rfl rfl rfl (by simp) Tryz.underlying63) ?_ | refine al_y rfl rfl (y_len_nil rfl rfl Tryz.underlying63) ?_
    refine al_y rfl rfl (y_lss rfl rfl rfl) ?_
    refine al_nil ?_
    refine qt_normal ?_
    refine ac_cond rfl (fun h0 => ?_) (fun h0 => ?_)
    · skip
      have hlt : q < l.length := by simpa [eBk] using h0
      have hnl := lkN_len w miss l q
      refine ac_skip ?_
      refine qt_normal ?_
      refine ac_seq ?_
      refine ac_block ?_
      refine ac_seq ?_
      refine ac_region ?_
      first | refine al_y rfl rfl (y_assignV rfl rfl) ?_ | refine al_y rfl rfl (y_assignP rfl rfl) ?_ | refine al_y rfl rfl (y_assignS rfl rfl) ?_ | refine al_y rfl rfl (y_assignG rfl rfl) ?_
      refine al_nil ?_
      refine qt_normal ?_
      refine ac_seq ?_
      refine ac_seq ?_
      refine ac_region ?_
      first | refine al_y rfl rfl (y_assignV rfl rfl) ?_ | refine al_y rfl rfl (y_assignP rfl rfl) ?_ | refine al_y rfl rfl (y_assignS rfl rfl) ?_ | refine al_y rfl rfl (y_assignG rfl rfl) ?_
      refine al_nil ?_
      refine qt_normal ?_
      refine ac_block ?_
      refine ac_loop (ι := { k : Nat // k ≤ w.length }) (fun k => ⟨Tryz.f49.ntmps, frL [(0, .pub (eBk l)), (1, SL w), (2, I miss), (7, .psl 0 (lkN w miss l q).length), (8, I (q : Int)), (9, I (msK w l[q].word k.1)), (10, I (k.1 : Int))], [.row ((lkN w miss l q).map fun n => [I n])]⟩) (fun k => w.length - k.1) (⟨0, by omega⟩) ?_ ?_
      · exact weak_frM _ ⟨rfl, rfl, rfl, rfl, rfl, rfl, rfl, trivial⟩ (rfl)
      · rintro ⟨k, hk⟩
        dsimp only
        refine ac_seq ?_
        refine ac_seq ?_
        refine ac_region ?_
        first | refine al_y rfl rfl (y_moveV rfl rfl) ?_ | refine al_y rfl rfl (y_moveP rfl rfl) ?_ | refine al_y rfl rfl (y_moveS rfl rfl) ?_ | refine al_y rfl rfl (y_moveG rfl rfl) ?_
        first | refine al_y rfl rfl (y_moveV rfl rfl) ?_ | refine al_y rfl rfl (y_moveP rfl rfl) ?_ | refine al_y rfl rfl (y_moveS rfl rfl) ?_ | refine al_y rfl rfl (y_moveG rfl rfl) ?_
        first | refine al_y rfl rfl (y_len_SL rfl rfl Tryz.underlying9) ?_ | refine al_y rfl rfl (y_len_str rfl rfl Tryz.underlying9) ?_
        refine al_y rfl rfl (y_lss rfl rfl rfl) ?_
        first | refine al_y rfl rfl (y_moveV rfl rfl) ?_ | refine al_y rfl rfl (y_moveP rfl rfl) ?_ | refine al_y rfl rfl (y_moveS rfl rfl) ?_ | refine al_y rfl rfl (y_moveG rfl rfl) ?_
        first | refine al_maybe rfl rfl rfl (fun hg => y_moveV rfl rfl) ?_ | refine al_maybe rfl rfl rfl (fun hg => y_moveP rfl rfl) ?_ | refine al_maybe rfl rfl rfl (fun hg => y_moveS rfl rfl) ?_ | refine al_maybe rfl rfl rfl (fun hg => y_moveG rfl rfl) ?_ | refine al_maybe (x := .pub (.tup [])) rfl rfl rfl (fun hg => absurd hg (by decide)) ?_
        first | refine al_maybe rfl rfl rfl (fun hg => y_moveV rfl rfl) ?_ | refine al_maybe rfl rfl rfl (fun hg => y_moveP rfl rfl) ?_ | refine al_maybe rfl rfl rfl (fun hg => y_moveS rfl rfl) ?_ | refine al_maybe rfl rfl rfl (fun hg => y_moveG rfl rfl) ?_ | refine al_maybe (x := .pub (.tup [])) rfl rfl rfl (fun hg => absurd hg (by decide)) ?_
        first | refine al_maybe rfl rfl rfl (fun hg => y_moveV rfl rfl) ?_ | refine al_maybe rfl rfl rfl (fun hg => y_moveP rfl rfl) ?_ | refine al_maybe rfl rfl rfl (fun hg => y_moveS rfl rfl) ?_ | refine al_maybe rfl rfl rfl (fun hg => y_moveG rfl rfl) ?_ | refine al_maybe (x := .pub (.tup [])) rfl rfl rfl (fun hg => absurd hg (by decide)) ?_
        first | refine al_maybe rfl rfl rfl (fun hg => y_indexAddr rfl (by first | exact rfl | exact if_pos hg) (by first | exact rfl | exact if_pos hg) slc63 (by omega) (ent_at hlt) ent_len) ?_ | refine al_maybe rfl rfl rfl (fun hg => y_indexAddr_psl rfl (by first | exact rfl | exact if_pos hg) (by first | exact rfl | exact if_pos hg) rfl rfl slc63 (by omega) (ent_at hlt) ent_len) ?_ | refine al_maybe rfl rfl rfl (fun hg => y_indexAddr rfl rfl rfl slc63 (by omega) (ent_at hlt) ent_len) ?_ | refine al_maybe rfl rfl rfl (fun hg => y_indexAddr_psl rfl rfl rfl rfl rfl slc63 (by omega) (ent_at hlt) ent_len) ?_ | refine al_maybe (x := .pub (.tup [])) rfl rfl rfl (fun hg => absurd hg (by decide)) ?_
        first | refine al_maybe rfl rfl rfl (fun hg => y_fieldAddr rfl (by first | exact rfl | exact if_pos hg) fld152_0) ?_ | refine al_maybe rfl rfl rfl (fun hg => y_fieldAddr_pp rfl (by first | exact rfl | exact if_pos hg) rfl rfl fld152_0) ?_ | refine al_maybe rfl rfl rfl (fun hg => y_fieldAddr rfl rfl fld152_0) ?_ | refine al_maybe rfl rfl rfl (fun hg => y_fieldAddr_pp rfl rfl rfl rfl fld152_0) ?_ | refine al_maybe (x := .pub (.tup [])) rfl rfl rfl (fun hg => absurd hg (by decide)) ?_
        first | refine al_maybe rfl rfl rfl (fun hg => y_load1 rfl (by first | exact rfl | exact if_pos hg) rfl ty9) ?_ | refine al_maybe rfl rfl rfl (fun hg => y_load_pp1 rfl (by first | exact rfl | exact if_pos hg) rfl rfl rfl rfl ty9) ?_ | refine al_maybe rfl rfl rfl (fun hg => y_load1 rfl rfl rfl ty9) ?_ | refine al_maybe rfl rfl rfl (fun hg => y_load_pp1 rfl rfl rfl rfl rfl rfl ty9) ?_ | refine al_maybe (x := .pub (.tup [])) rfl rfl rfl (fun hg => absurd hg (by decide)) ?_
        first | refine al_maybe rfl rfl rfl (fun hg => y_len_SL rfl (by first | exact rfl | exact if_pos hg) Tryz.underlying9) ?_ | refine al_maybe rfl rfl rfl (fun hg => y_len_str rfl (by first | exact rfl | exact if_pos hg) Tryz.underlying9) ?_ | refine al_maybe rfl rfl rfl (fun hg => y_len_SL rfl rfl Tryz.underlying9) ?_ | refine al_maybe rfl rfl rfl (fun hg => y_len_str rfl rfl Tryz.underlying9) ?_ | refine al_maybe (x := .pub (.tup [])) rfl rfl rfl (fun hg => absurd hg (by decide)) ?_
        first | refine al_maybe rfl rfl rfl (fun hg => y_lss rfl (by first | exact rfl | exact if_pos hg) (by first | exact rfl | exact if_pos hg)) ?_ | refine al_maybe rfl rfl rfl (fun hg => y_lss rfl rfl rfl) ?_ | refine al_maybe (x := .pub (.tup [])) rfl rfl rfl (fun hg => absurd hg (by decide)) ?_
        first | refine al_y rfl rfl (y_and rfl rfl rfl rfl) ?_ | refine al_y rfl rfl (y_or rfl rfl rfl rfl) ?_ | refine al_y rfl rfl (y_pick rfl rfl (fun _ => rfl) (fun _ => rfl)) ?_ | refine al_y rfl rfl (y_pick rfl rfl (fun _ => rfl) (fun h => absurd h (by decide))) ?_ | refine al_y rfl rfl (y_pick rfl rfl (fun h => absurd h (by decide)) (fun _ => rfl)) ?_
        refine al_nil ?_
        refine qt_normal ?_
        refine ac_cond rfl (fun h1 => ?_) (fun h1 => ?_)
        · skip
          have hkl : k < w.length := by simp at h1; omega
          have hke : k < l[q].word.length := by simp at h1; omega
          have hb1 := msK_bd w l[q].word k
          refine ac_skip ?_
          refine qt_normal ?_
          refine ac_seq ?_
          refine ac_block ?_
          refine ac_seq ?_
          refine ac_draw mixed (by kernel_rfl) rfl ?_
          first | refine aq_y rfl (y_moveV rfl rfl) ?_ | refine aq_y rfl (y_moveP rfl rfl) ?_ | refine aq_y rfl (y_moveS rfl rfl) ?_ | refine aq_y rfl (y_moveG rfl rfl) ?_
          first | refine aq_y rfl (y_moveV rfl rfl) ?_ | refine aq_y rfl (y_moveP rfl rfl) ?_ | refine aq_y rfl (y_moveS rfl rfl) ?_ | refine aq_y rfl (y_moveG rfl rfl) ?_
          refine aq_y rfl (y_index_SL rfl rfl rfl Tryz.underlying9 (by omega) (by rw [Int.toNat_natCast]; exact List.getElem?_eq_getElem hkl)) ?_
          refine aq_y rfl (y_neq rfl rfl rfl) ?_
          first | refine aq_y rfl (y_moveV rfl rfl) ?_ | refine aq_y rfl (y_moveP rfl rfl) ?_ | refine aq_y rfl (y_moveS rfl rfl) ?_ | refine aq_y rfl (y_moveG rfl rfl) ?_
          first | refine aq_maybe rfl (fun hg => y_moveV rfl rfl) ?_ | refine aq_maybe rfl (fun hg => y_moveP rfl rfl) ?_ | refine aq_maybe rfl (fun hg => y_moveS rfl rfl) ?_ | refine aq_maybe rfl (fun hg => y_moveG rfl rfl) ?_ | refine aq_maybe (x := .pub (.tup [])) rfl (fun hg => absurd hg (by decide)) ?_
          first | refine aq_maybe rfl (fun hg => y_moveV rfl rfl) ?_ | refine aq_maybe rfl (fun hg => y_moveP rfl rfl) ?_ | refine aq_maybe rfl (fun hg => y_moveS rfl rfl) ?_ | refine aq_maybe rfl (fun hg => y_moveG rfl rfl) ?_ | refine aq_maybe (x := .pub (.tup [])) rfl (fun hg => absurd hg (by decide)) ?_
          first | refine aq_maybe rfl (fun hg => y_index_SL rfl (by first | exact rfl | exact if_pos hg) (by first | exact rfl | exact if_pos hg) Tryz.underlying9 (by omega) (by rw [Int.toNat_natCast]; exact List.getElem?_eq_getElem hkl)) ?_ | refine aq_maybe rfl (fun hg => y_index_SL rfl rfl rfl Tryz.underlying9 (by omega) (by rw [Int.toNat_natCast]; exact List.getElem?_eq_getElem hkl)) ?_ | refine aq_maybe (x := .pub (.tup [])) rfl (fun hg => absurd hg (by decide)) ?_
          first | refine aq_maybe rfl (fun hg => y_moveV rfl rfl) ?_ | refine aq_maybe rfl (fun hg => y_moveP rfl rfl) ?_ | refine aq_maybe rfl (fun hg => y_moveS rfl rfl) ?_ | refine aq_maybe rfl (fun hg => y_moveG rfl rfl) ?_ | refine aq_maybe (x := .pub (.tup [])) rfl (fun hg => absurd hg (by decide)) ?_
          first | refine aq_maybe rfl (fun hg => y_moveV rfl rfl) ?_ | refine aq_maybe rfl (fun hg => y_moveP rfl rfl) ?_ | refine aq_maybe rfl (fun hg => y_moveS rfl rfl) ?_ | refine aq_maybe rfl (fun hg => y_moveG rfl rfl) ?_ | refine aq_maybe (x := .pub (.tup [])) rfl (fun hg => absurd hg (by decide)) ?_
          first | refine aq_maybe rfl (fun hg => y_indexAddr rfl (by first | exact rfl | exact if_pos hg) (by first | exact rfl | exact if_pos hg) slc63 (by omega) (ent_at hlt) ent_len) ?_ | refine aq_maybe rfl (fun hg => y_indexAddr_psl rfl (by first | exact rfl | exact if_pos hg) (by first | exact rfl | exact if_pos hg) rfl rfl slc63 (by omega) (ent_at hlt) ent_len) ?_ | refine aq_maybe rfl (fun hg => y_indexAddr rfl rfl rfl slc63 (by omega) (ent_at hlt) ent_len) ?_ | refine aq_maybe rfl (fun hg => y_indexAddr_psl rfl rfl rfl rfl rfl slc63 (by omega) (ent_at hlt) ent_len) ?_ | refine aq_maybe (x := .pub (.tup [])) rfl (fun hg => absurd hg (by decide)) ?_
          first | refine aq_maybe rfl (fun hg => y_fieldAddr rfl (by first | exact rfl | exact if_pos hg) fld152_0) ?_ | refine aq_maybe rfl (fun hg => y_fieldAddr_pp rfl (by first | exact rfl | exact if_pos hg) rfl rfl fld152_0) ?_ | refine aq_maybe rfl (fun hg => y_fieldAddr rfl rfl fld152_0) ?_ | refine aq_maybe rfl (fun hg => y_fieldAddr_pp rfl rfl rfl rfl fld152_0) ?_ | refine aq_maybe (x := .pub (.tup [])) rfl (fun hg => absurd hg (by decide)) ?_
          first | refine aq_maybe rfl (fun hg => y_load1 rfl (by first | exact rfl | exact if_pos hg) rfl ty9) ?_ | refine aq_maybe rfl (fun hg => y_load_pp1 rfl (by first | exact rfl | exact if_pos hg) rfl rfl rfl rfl ty9) ?_ | refine aq_maybe rfl (fun hg => y_load1 rfl rfl rfl ty9) ?_ | refine aq_maybe rfl (fun hg => y_load_pp1 rfl rfl rfl rfl rfl rfl ty9) ?_ | refine aq_maybe (x := .pub (.tup [])) rfl (fun hg => absurd hg (by decide)) ?_
          first | refine aq_maybe rfl (fun hg => y_moveV rfl rfl) ?_ | refine aq_maybe rfl (fun hg => y_moveP rfl rfl) ?_ | refine aq_maybe rfl (fun hg => y_moveS rfl rfl) ?_ | refine aq_maybe rfl (fun hg => y_moveG rfl rfl) ?_ | refine aq_maybe (x := .pub (.tup [])) rfl (fun hg => absurd hg (by decide)) ?_
          first | refine aq_maybe rfl (fun hg => y_index_SL rfl (by first | exact rfl | exact if_pos hg) (by first | exact rfl | exact if_pos hg) Tryz.underlying9 (by omega) (by rw [Int.toNat_natCast]; exact List.getElem?_eq_getElem hke)) ?_ | refine aq_maybe rfl (fun hg => y_index_SL rfl rfl rfl Tryz.underlying9 (by omega) (by rw [Int.toNat_natCast]; exact List.getElem?_eq_getElem hke)) ?_ | refine aq_maybe (x := .pub (.tup [])) rfl (fun hg => absurd hg (by decide)) ?_
          first | refine aq_maybe rfl (fun hg => y_neq rfl (by first | exact rfl | exact if_pos hg) (by first | exact rfl | exact if_pos hg)) ?_ | refine aq_maybe rfl (fun hg => y_neq rfl rfl rfl) ?_ | refine aq_maybe (x := .pub (.tup [])) rfl (fun hg => absurd hg (by decide)) ?_
          first | refine aq_y rfl (y_and rfl rfl rfl rfl) ?_ | refine aq_y rfl (y_or rfl rfl rfl rfl) ?_ | refine aq_y rfl (y_pick rfl rfl (fun _ => rfl) (fun _ => rfl)) ?_ | refine aq_y rfl (y_pick rfl rfl (fun _ => rfl) (fun h => absurd h (by decide))) ?_ | refine aq_y rfl (y_pick rfl rfl (fun h => absurd h (by decide)) (fun _ => rfl)) ?_
          refine aq_nil ?_
          refine qt_normal ?_
          refine ac_cond rfl (fun h2 => ?_) (fun h2 => ?_)
          · skip
            have hst : msK w l[q].word (k + 1) = msK w l[q].word k + 1 := msK_yes hkl hke (by have h := h2; simp at h; exact ⟨by omega, fun e => h.2 (by rw [e])⟩)
            refine ac_region ?_
            first | refine al_y rfl rfl (y_moveV rfl rfl) ?_ | refine al_y rfl rfl (y_moveP rfl rfl) ?_ | refine al_y rfl rfl (y_moveS rfl rfl) ?_ | refine al_y rfl rfl (y_moveG rfl rfl) ?_
            refine al_y rfl rfl (y_add rfl rfl rfl ⟨(by omega), (by omega)⟩) ?_
            first | refine al_y rfl rfl (y_assignV rfl rfl) ?_ | refine al_y rfl rfl (y_assignP rfl rfl) ?_ | refine al_y rfl rfl (y_assignS rfl rfl) ?_ | refine al_y rfl rfl (y_assignG rfl rfl) ?_
            refine al_nil ?_
            refine qb_normal ?_
            refine qt_normal ?_
            refine ac_region ?_
            first | refine al_y rfl rfl (y_moveV rfl rfl) ?_ | refine al_y rfl rfl (y_moveP rfl rfl) ?_ | refine al_y rfl rfl (y_moveS rfl rfl) ?_ | refine al_y rfl rfl (y_moveG rfl rfl) ?_
            refine al_y rfl rfl (y_add rfl rfl rfl ⟨(by omega), (by omega)⟩) ?_
            first | refine al_y rfl rfl (y_assignV rfl rfl) ?_ | refine al_y rfl rfl (y_assignP rfl rfl) ?_ | refine al_y rfl rfl (y_assignS rfl rfl) ?_ | refine al_y rfl rfl (y_assignG rfl rfl) ?_
            refine al_nil ?_
            exact ⟨⟨k + 1, by omega⟩, by dsimp only; omega, weak_frM _ ⟨rfl, rfl, rfl, rfl, rfl, (congrArg (fun x : Int => I x) (by rw [hst])), rfl, trivial⟩ (rfl)⟩
          · skip
            have hst : msK w l[q].word (k + 1) = msK w l[q].word k := msK_no hkl hke (by intro hc; have h := h2; simp at h; exact hc.2 (u8_int.1 (h (by omega))))
            refine ac_skip ?_
            refine qb_normal ?_
            refine qt_normal ?_
            refine ac_region ?_
            first | refine al_y rfl rfl (y_moveV rfl rfl) ?_ | refine al_y rfl rfl (y_moveP rfl rfl) ?_ | refine al_y rfl rfl (y_moveS rfl rfl) ?_ | refine al_y rfl rfl (y_moveG rfl rfl) ?_
            refine al_y rfl rfl (y_add rfl rfl rfl ⟨(by omega), (by omega)⟩) ?_
            first | refine al_y rfl rfl (y_assignV rfl rfl) ?_ | refine al_y rfl rfl (y_assignP rfl rfl) ?_ | refine al_y rfl rfl (y_assignS rfl rfl) ?_ | refine al_y rfl rfl (y_assignG rfl rfl) ?_
            refine al_nil ?_
            exact ⟨⟨k + 1, by omega⟩, by dsimp only; omega, weak_frM _ ⟨rfl, rfl, rfl, rfl, rfl, (congrArg (fun x : Int => I x) (by rw [hst])), rfl, trivial⟩ (rfl)⟩
        · skip
          have hms := msT_at (e := l[q].word) hk (by simp at h1; omega)
          refine ac_exit ?_
          refine qt_exit ?_
          refine qt_exit ?_
          refine qb_exit ?_
          refine qt_normal ?_
          refine ac_seq ?_
          refine ac_region ?_
          first | refine al_y rfl rfl (y_moveV rfl rfl) ?_ | refine al_y rfl rfl (y_moveP rfl rfl) ?_ | refine al_y rfl rfl (y_moveS rfl rfl) ?_ | refine al_y rfl rfl (y_moveG rfl rfl) ?_
          first | refine al_y rfl rfl (y_moveV rfl rfl) ?_ | refine al_y rfl rfl (y_moveP rfl rfl) ?_ | refine al_y rfl rfl (y_moveS rfl rfl) ?_ | refine al_y rfl rfl (y_moveG rfl rfl) ?_
          refine al_y rfl rfl (y_leq rfl rfl rfl) ?_
          refine al_nil ?_
          refine qt_normal ?_
          refine ac_cond rfl (fun h3 => ?_) (fun h3 => ?_)
          · skip
            have hst := lkN_yes (w := w) (miss := miss) hlt (by simpa [hms] using h3)
            refine ac_region ?_
            first | refine al_y rfl rfl (y_moveV rfl rfl) ?_ | refine al_y rfl rfl (y_moveP rfl rfl) ?_ | refine al_y rfl rfl (y_moveS rfl rfl) ?_ | refine al_y rfl rfl (y_moveG rfl rfl) ?_
            first | refine al_y rfl rfl (y_moveV rfl rfl) ?_ | refine al_y rfl rfl (y_moveP rfl rfl) ?_ | refine al_y rfl rfl (y_moveS rfl rfl) ?_ | refine al_y rfl rfl (y_moveG rfl rfl) ?_
            refine al_y rfl rfl (y_buildSlice (size := 1) (rows := [[_]]) rfl Tryz.underlying23 ti3 rfl (by decide) rfl (by decide) ⟨_, _, rfl, (by first | exact cE_v rfl | exact cE_sl rfl | exact cE_ptr rfl | exact cE_agg rfl | exact cE_psl rfl rfl (by simp) | exact cE_mix rfl | exact cE_fn rfl | exact cE_ifc rfl), rfl⟩ (by rfl) (by simp [ofV]) rfl (by simp)) ?_
            first | refine al_m rfl (m_appendN rfl rfl rfl rfl rfl el23 (by simp) (by simp; omega) (by unfold maxLen; simp; omega)) ?_ | refine al_m rfl (m_append rfl rfl rfl rfl (by simp) rfl el23 (by intro r hr; obtain ⟨n, _, rfl⟩ := List.mem_map.1 hr; rfl) (by simp) (by simp; omega) (by unfold maxLen; simp; omega)) ?_
            first | refine al_y rfl rfl (y_assignV rfl rfl) ?_ | refine al_y rfl rfl (y_assignP rfl rfl) ?_ | refine al_y rfl rfl (y_assignS rfl rfl) ?_ | refine al_y rfl rfl (y_assignG rfl rfl) ?_
            refine al_nil ?_
            refine qb_normal ?_
            refine qt_normal ?_
            refine ac_region ?_
            first | refine al_y rfl rfl (y_moveV rfl rfl) ?_ | refine al_y rfl rfl (y_moveP rfl rfl) ?_ | refine al_y rfl rfl (y_moveS rfl rfl) ?_ | refine al_y rfl rfl (y_moveG rfl rfl) ?_
            refine al_y rfl rfl (y_add rfl rfl rfl ⟨(by omega), (by omega)⟩) ?_
            first | refine al_y rfl rfl (y_assignV rfl rfl) ?_ | refine al_y rfl rfl (y_assignP rfl rfl) ?_ | refine al_y rfl rfl (y_assignS rfl rfl) ?_ | refine al_y rfl rfl (y_assignG rfl rfl) ?_
            refine al_nil ?_
            exact ⟨⟨q + 1, by omega⟩, by dsimp only; omega, (by refine weak_frM (mem' := [.row ((lkN w miss l (q + 1)).map fun n => [I n])]) _ ?_ ?_; exact ⟨rfl, rfl, rfl, (congrArg (fun x : Nat => EV.psl 0 x) (by simp only [hst, List.length_append, List.length_singleton, List.map_append, List.map_cons, List.map_nil])), rfl, trivial⟩; exact congrArg (fun z => [PO.row z]) (by simp only [hst, List.length_append, List.length_singleton, List.map_append, List.map_cons, List.map_nil]))⟩
          · skip
            have hst := lkN_no (w := w) (miss := miss) hlt (by simpa [hms] using h3)
            refine ac_skip ?_
            refine qb_normal ?_
            refine qt_normal ?_
            refine ac_region ?_
            first | refine al_y rfl rfl (y_moveV rfl rfl) ?_ | refine al_y rfl rfl (y_moveP rfl rfl) ?_ | refine al_y rfl rfl (y_moveS rfl rfl) ?_ | refine al_y rfl rfl (y_moveG rfl rfl) ?_
            refine al_y rfl rfl (y_add rfl rfl rfl ⟨(by omega), (by omega)⟩) ?_
            first | refine al_y rfl rfl (y_assignV rfl rfl) ?_ | refine al_y rfl rfl (y_assignP rfl rfl) ?_ | refine al_y rfl rfl (y_assignS rfl rfl) ?_ | refine al_y rfl rfl (y_assignG rfl rfl) ?_
            refine al_nil ?_
            exact ⟨⟨q + 1, by omega⟩, by dsimp only; omega, (by refine weak_frM (mem' := [.row ((lkN w miss l (q + 1)).map fun n => [I n])]) _ ?_ ?_; exact ⟨rfl, rfl, rfl, (congrArg (fun x : Nat => EV.psl 0 x) (by simp only [hst, List.length_append, List.length_singleton, List.map_append, List.map_cons, List.map_nil])), rfl, trivial⟩; exact congrArg (fun z => [PO.row z]) (by simp only [hst, List.length_append, List.length_singleton, List.map_append, List.map_cons, List.map_nil]))⟩
    · skip
      have hge : l.length ≤ q := by simpa [eBk] using h0
      have hk2 : q = l.length := by omega
      subst hk2
      refine ac_exit ?_
      refine qt_exit ?_
      refine qt_exit ?_
      refine qb_exit ?_
      refine qt_normal ?_
      refine ac_seq ?_
      refine ac_region ?_
      first | refine al_y rfl rfl (y_moveV rfl rfl) ?_ | refine al_y rfl rfl (y_moveP rfl rfl) ?_ | refine al_y rfl rfl (y_moveS rfl rfl) ?_ | refine al_y rfl rfl (y_moveG rfl rfl) ?_
      first | refine al_y rfl rfl (y_assignV rfl rfl) ?_ | refine al_y rfl rfl (y_assignP rfl rfl) ?_ | refine al_y rfl rfl (y_assignS rfl rfl) ?_ | refine al_y rfl rfl (y_assignG rfl rfl) ?_
      refine al_nil ?_
      refine qt_normal ?_
      refine ac_ret ?_
      exact ⟨.inr rfl, ⟨((lkA w miss l).map fun n => [.v (.int .i64 n)]), by show some (PO.row _) = some (PO.row _); simp [lkA, Function.comp_def], by simp [lkA], rfl⟩⟩
end Go.Av
end
