/- WireRepeats. -/
import Derived.Test.YtaphehlgijlfeaaGreatDoorWiU
import Derived.Test.YtaphehlgijlfeaaGreatDoorWiP
set_option linter.unusedVariables false
set_option linter.unusedSimpArgs false
section
namespace Go.Av
open Go.Proofs
set_option maxRecDepth 100000
set_option maxHeartbeats 1000000
set_option linter.unusedSimpArgs false
variable {G : Glob}

def dG (c : Cod) (l : List (List (List UInt8))) : Int := if fndE c l = 0 then (bestD (dbtL (c.fields.length + 1) (fndL c l))).1 else 0
def dN (c : Cod) (l : List (List (List UInt8))) : Int := if fndE c l = 0 then (bestD (dbtL (c.fields.length + 1) (fndL c l))).2 else 0
theorem f43 (c : Cod) (l : List (List (List UInt8))) (hc : c.fields.length ≤ 1000 ∧ c.turns.length ≤ 1000) (hl : l.length ≤ 1000) (hgl : ∀ g ∈ l, g.length ≤ 1000) : ACall Tryz.prog G 43 [.agg (eCod c), eCps l] (.tup [ei (dG c l), ei (dN c l), ei (fndE c l)]) := by
  by_cases h : fndE c l = 0
  · have := f43_ok (G := G) c l hc hl hgl h (fndL c l) rfl
    unfold dG dN
    rw [if_pos h, if_pos h, h]
    exact this
  · have := f43_err (G := G) c l hc hl hgl h
    unfold dG dN
    rw [if_neg h, if_neg h]
    exact this
theorem rep_chk1 {a b : Bool} (h1 : a = false) (h2 : b = false) : (a || b) = false := by subst h1; subst h2; rfl
theorem rep_split {s f a o1 o2 : Bool} (h : ((((!s || !f) || a) || o1) || o2) = false) : s = true ∧ f = true ∧ a = false ∧ o1 = false ∧ o2 = false := by
  revert h; cases s <;> cases f <;> cases a <;> cases o1 <;> cases o2 <;> simp
theorem many_pos {L : List (List Int)} {p : Nat} (h : L ≠ []) : 1 ≤ manyAt L p := by
  have h0 : 0 < L.length := List.length_pos_iff.2 h
  have hk : 0 < (keysAt L p).length := by rw [keys_len]; exact h0
  have := mxK_ge (ks := keysAt L p) (keysAt L p)[0] (k := L.length) (by rw [keys_len]; exact Nat.le_refl _)
  rw [List.take_of_length_le (by rw [keys_len]; exact Nat.le_refl _)] at this
  have h1 : 0 < (keysAt L p).count (keysAt L p)[0] := List.count_pos_iff.2 (List.getElem_mem hk)
  unfold manyAt; omega
theorem rep_chk3 {a b c d : Bool} (h1 : a = false) (h2 : b = false) (h3 : c = false) (h4 : d = false) : (((a || b) || c) || d) = false := by subst h1; subst h2; subst h3; subst h4; rfl
theorem rep_fin {k n o g : Nat} (h : n ≤ k ∧ (k = n → g ≤ o)) : ((decide ((n : Int) < (k : Int)) || (((k : Int) == (n : Int)) && decide ((g : Int) ≤ (o : Int)))) && true) = true := by
  by_cases e : k = n
  · have := h.2 e
    subst e
    simp; omega
  · have : n < k := by omega
    simp; omega

theorem f8_far (hk : KN G) (c : Cod) (l : List (List (List UInt8))) (o at' : Int) (ho : o < 0) : ACall Tryz.prog G 8 [.agg (eCod c), eCps l, ei o, ei at'] (.v (.bool true)) := by
 refine acall_of Tryz.func8 rfl (by kernel_rfl) rfl ?_
 refine ac_seq ?_
 refine ac_region ?_
 refine al_y rfl rfl (y_box rfl (cE_agg rfl)) ?_
 refine al_y rfl rfl (y_assignV rfl rfl) ?_
 refine al_nil ?_
 refine qt_normal ?_
 refine ac_seq ?_
 refine ac_seq ?_
 refine ac_region ?_
 refine al_y rfl rfl (y_loadN rfl rfl ty25 (by exact Nat.le_of_ble_eq_true rfl)) ?_
 refine al_y rfl rfl (y_callF (av := [_]) rfl ⟨rfl, trivial⟩ (f21v c (b := shortB c) rfl)) ?_
 refine al_y rfl rfl (y_not rfl rfl) ?_
 refine al_y rfl rfl (y_moveV rfl rfl) ?_
 refine al_maybe rfl rfl rfl (fun hg => y_moveP rfl rfl) ?_
 refine al_maybe rfl rfl rfl (fun hg => y_callF (av := [_]) rfl ⟨((if_pos hg)), trivial⟩ (f22 l)) ?_
 refine al_maybe rfl rfl rfl (fun hg => y_not rfl (if_pos hg)) ?_
 refine al_y rfl rfl (y_or rfl rfl rfl rfl) ?_
 refine al_y rfl rfl (y_moveV rfl rfl) ?_
 refine al_maybe rfl rfl rfl (fun hg => y_loadN rfl rfl ty25 (by exact Nat.le_of_ble_eq_true rfl)) ?_
 refine al_maybe rfl rfl rfl (fun hg => y_moveP rfl rfl) ?_
 refine al_maybe rfl rfl rfl (fun hg => y_callF (av := [_, _]) rfl ⟨((if_pos hg)), ((if_pos hg)), trivial⟩ (f26 c l (shortB_sz (gS hg)) (fewB_sz (gF hg)).1 (fewB_sz (gF hg)).2)) ?_
 refine al_maybe rfl rfl rfl (fun hg => y_neq rfl (if_pos hg) rfl) ?_
 refine al_y rfl rfl (y_or rfl rfl rfl rfl) ?_
 refine al_y rfl rfl (y_moveV rfl rfl) ?_
 refine al_maybe rfl rfl rfl (fun hg => y_moveV rfl rfl) ?_
 refine al_maybe rfl rfl rfl (fun hg => y_lss rfl (if_pos hg) rfl) ?_
 refine al_y rfl rfl (y_or rfl rfl rfl rfl) ?_
 refine al_y rfl rfl (y_moveV rfl rfl) ?_
 refine al_maybe rfl rfl rfl (fun hg => y_moveV rfl rfl) ?_
 refine al_maybe rfl rfl rfl (fun hg => y_fieldAddr rfl rfl fld25_0) ?_
 refine al_maybe rfl rfl rfl (fun hg => y_load1 rfl (if_pos hg) rfl ty22) ?_
 refine al_maybe rfl rfl rfl (fun hg => y_len rfl rfl (if_pos hg) Tryz.underlying22) ?_
 refine al_maybe rfl rfl rfl (fun hg => y_gtr rfl (if_pos hg) (if_pos hg)) ?_
 refine al_y rfl rfl (y_or rfl rfl rfl rfl) ?_
 refine al_nil ?_
 refine qt_normal ?_
 refine ac_cond rfl (fun h_0 => ?_) (fun h_0 => ?_)
 ·
  refine ac_seq ?_
  refine ac_region ?_
  refine al_y rfl rfl (y_callF (av := []) rfl trivial hk) ?_
  refine al_y rfl rfl (y_assignV rfl rfl) ?_
  refine al_nil ?_
  refine qt_normal ?_
  refine ac_ret ?_
  refine qt_ret ?_
  exact ⟨.inr rfl, AVle.refl _⟩
 ·
  exfalso; have H := (rep_split h_0).2.2.2.1; simp at H; omega

theorem f8_main (hk : KN G) (c : Cod) (l : List (List (List UInt8))) (o : Nat) (at' : Int) (L : List (List Int)) (hLd : L = fndL c l) : ACall Tryz.prog G 8 [.agg (eCod c), eCps l, ei (o : Int), ei at'] (.v (.bool true)) := by
 refine acall_of Tryz.func8 rfl (by kernel_rfl) rfl ?_
 refine ac_seq ?_
 refine ac_region ?_
 refine al_y rfl rfl (y_box rfl (cE_agg rfl)) ?_
 refine al_y rfl rfl (y_assignV rfl rfl) ?_
 refine al_nil ?_
 refine qt_normal ?_
 refine ac_seq ?_
 refine ac_seq ?_
 refine ac_region ?_
 refine al_y rfl rfl (y_loadN rfl rfl ty25 (by exact Nat.le_of_ble_eq_true rfl)) ?_
 refine al_y rfl rfl (y_callF (av := [_]) rfl ⟨rfl, trivial⟩ (f21v c (b := shortB c) rfl)) ?_
 refine al_y rfl rfl (y_not rfl rfl) ?_
 refine al_y rfl rfl (y_moveV rfl rfl) ?_
 refine al_maybe rfl rfl rfl (fun hg => y_moveP rfl rfl) ?_
 refine al_maybe rfl rfl rfl (fun hg => y_callF (av := [_]) rfl ⟨((if_pos hg)), trivial⟩ (f22 l)) ?_
 refine al_maybe rfl rfl rfl (fun hg => y_not rfl (if_pos hg)) ?_
 refine al_y rfl rfl (y_or rfl rfl rfl rfl) ?_
 refine al_y rfl rfl (y_moveV rfl rfl) ?_
 refine al_maybe rfl rfl rfl (fun hg => y_loadN rfl rfl ty25 (by exact Nat.le_of_ble_eq_true rfl)) ?_
 refine al_maybe rfl rfl rfl (fun hg => y_moveP rfl rfl) ?_
 refine al_maybe rfl rfl rfl (fun hg => y_callF (av := [_, _]) rfl ⟨((if_pos hg)), ((if_pos hg)), trivial⟩ (f26 c l (shortB_sz (gS hg)) (fewB_sz (gF hg)).1 (fewB_sz (gF hg)).2)) ?_
 refine al_maybe rfl rfl rfl (fun hg => y_neq rfl (if_pos hg) rfl) ?_
 refine al_y rfl rfl (y_or rfl rfl rfl rfl) ?_
 refine al_y rfl rfl (y_moveV rfl rfl) ?_
 refine al_maybe rfl rfl rfl (fun hg => y_moveV rfl rfl) ?_
 refine al_maybe rfl rfl rfl (fun hg => y_lss rfl (if_pos hg) rfl) ?_
 refine al_y rfl rfl (y_or rfl rfl rfl rfl) ?_
 refine al_y rfl rfl (y_moveV rfl rfl) ?_
 refine al_maybe rfl rfl rfl (fun hg => y_moveV rfl rfl) ?_
 refine al_maybe rfl rfl rfl (fun hg => y_fieldAddr rfl rfl fld25_0) ?_
 refine al_maybe rfl rfl rfl (fun hg => y_load1 rfl (if_pos hg) rfl ty22) ?_
 refine al_maybe rfl rfl rfl (fun hg => y_len rfl rfl (if_pos hg) Tryz.underlying22) ?_
 refine al_maybe rfl rfl rfl (fun hg => y_gtr rfl (if_pos hg) (if_pos hg)) ?_
 refine al_y rfl rfl (y_or rfl rfl rfl rfl) ?_
 refine al_nil ?_
 refine qt_normal ?_
 refine ac_cond rfl (fun h_0 => ?_) (fun h_0 => ?_)
 ·
  refine ac_seq ?_
  refine ac_region ?_
  refine al_y rfl rfl (y_callF (av := []) rfl trivial hk) ?_
  refine al_y rfl rfl (y_assignV rfl rfl) ?_
  refine al_nil ?_
  refine qt_normal ?_
  refine ac_ret ?_
  refine qt_ret ?_
  exact ⟨.inr rfl, AVle.refl _⟩
 ·
  have H := rep_split h_0
  have hs := H.1
  have hfw := H.2.1
  have ha : askE c l = 0 := by have := H.2.2.1; simpa using this
  have ho2 : o ≤ c.fields.length := by have := H.2.2.2.2; simpa using this
  have z1 := shortB_sz hs
  have z2 := (fewB_sz hfw).1
  have z3 := (fewB_sz hfw).2
  have hcb := cod_bd (askE_0 ha).1
  have hLb := (fndL_sz c l).1
  rw [← hLd] at hLb
  refine ac_skip ?_
  refine qt_normal ?_
  refine ac_seq ?_
  refine ac_region ?_
  refine al_y rfl rfl (y_loadN rfl rfl ty25 (by exact Nat.le_of_ble_eq_true rfl)) ?_
  refine al_y rfl rfl (y_moveP rfl rfl) ?_
  refine al_y rfl rfl (y_callF (av := [_, _]) rfl ⟨rfl, rfl, trivial⟩ (hLd ▸ f24 c l z1 z2 z3)) ?_
  refine al_y rfl rfl (y_moveP rfl rfl) ?_
  refine al_y rfl rfl (y_extract rfl rfl rfl) ?_
  refine al_y rfl rfl (y_extract rfl rfl rfl) ?_
  refine al_y rfl rfl (y_assignP rfl rfl) ?_
  refine al_y rfl rfl (y_assignV rfl rfl) ?_
  refine al_nil ?_
  refine qt_normal ?_
  refine ac_seq ?_
  refine ac_region ?_
  refine al_y rfl rfl (y_loadN rfl rfl ty25 (by exact Nat.le_of_ble_eq_true rfl)) ?_
  refine al_y rfl rfl (y_moveP rfl rfl) ?_
  refine al_y rfl rfl (y_callF (av := [_, _]) rfl ⟨rfl, rfl, trivial⟩ (f43 c l z1 z2 z3)) ?_
  refine al_y rfl rfl (y_moveP rfl rfl) ?_
  refine al_y rfl rfl (y_extract rfl rfl rfl) ?_
  refine al_y rfl rfl (y_extract rfl rfl rfl) ?_
  refine al_y rfl rfl (y_extract rfl rfl rfl) ?_
  refine al_y rfl rfl (y_assignV rfl rfl) ?_
  refine al_y rfl rfl (y_assignV rfl rfl) ?_
  refine al_y rfl rfl (y_assignV rfl rfl) ?_
  refine al_nil ?_
  refine qt_normal ?_
  refine ac_seq ?_
  refine ac_seq ?_
  refine ac_region ?_
  refine al_y rfl rfl (y_moveV rfl rfl) ?_
  refine al_y rfl rfl (y_moveV rfl rfl) ?_
  refine al_y rfl rfl (y_neq rfl rfl rfl) ?_
  refine al_y rfl rfl (y_moveV rfl rfl) ?_
  refine al_maybe rfl rfl rfl (fun hg => y_moveV rfl rfl) ?_
  refine al_maybe rfl rfl rfl (fun hg => y_neq rfl (if_pos hg) rfl) ?_
  refine al_maybe rfl rfl rfl (fun hg => y_moveV rfl (if_pos hg)) ?_
  refine al_maybe rfl (wanted_ite rfl rfl rfl) rfl (fun hg => y_moveV rfl rfl) ?_
  refine al_maybe rfl (wanted_ite rfl rfl rfl) rfl (fun hg => y_neq rfl (if_pos hg) rfl) ?_
  refine al_maybe rfl rfl rfl (fun hg => y_and rfl (if_pos hg) (ite_and hg) rfl) ?_
  refine al_y rfl rfl (y_or rfl rfl rfl rfl) ?_
  refine al_nil ?_
  refine qt_normal ?_
  refine ac_cond rfl (fun h_1 => ?_) (fun h_1 => ?_)
  ·
   exact absurd (h_1.symm.trans (rep_chk1 (by simp) (fndE_05 ha))) (by decide)
  ·
   refine ac_skip ?_
   refine qt_normal ?_
   refine ac_seq ?_
   refine ac_seq ?_
   refine ac_region ?_
   refine al_y rfl rfl (y_moveV rfl rfl) ?_
   refine al_y rfl rfl (y_neq rfl rfl rfl) ?_
   refine al_nil ?_
   refine qt_normal ?_
   refine ac_cond rfl (fun h_2 => ?_) (fun h_2 => ?_)
   ·
    refine ac_seq ?_
    refine ac_region ?_
    refine al_y rfl rfl (y_callF (av := []) rfl trivial hk) ?_
    refine al_y rfl rfl (y_assignV rfl rfl) ?_
    refine al_nil ?_
    refine qt_normal ?_
    refine ac_ret ?_
    refine qt_ret ?_
    exact ⟨.inr rfl, AVle.refl _⟩
   ·
    have hf : fndE c l = 0 := by simpa using h_2
    have hfm := fnd_mem hf
    have hne : L ≠ [] := by
     rw [hLd, (fndE_z hf).2.1]; exact (fndE_z hf).2.2
    rw [← hLd] at hfm
    refine ac_skip ?_
    refine qt_normal ?_
    refine ac_seq ?_
    refine ac_seq ?_
    refine Exists.elim (dbt_best (c.fields.length + 1) (by omega) L) (fun g hg => ?_)
    have eg : dG c l = (g : Int) := by rw [dG, if_pos hf, ← hLd, hg.2.1]
    have en : dN c l = ((manyAt L g : Nat) : Int) := by rw [dN, if_pos hf, ← hLd, hg.2.1]
    refine ac_weak (weak_frM (mem' := []) [(2, I (o : Int)), (3, I at'), (4, .pub (.ptr (eCod c))), (9, .pub (eIntss L)), (11, I (g : Int)), (12, I ((manyAt L g : Nat) : Int))] ?_ ?_) ?_
    ·
     exact ⟨rfl, rfl, rfl, rfl, (congrArg I eg), (congrArg I en), trivial⟩
    ·
     exact (rfl)
    refine ac_region ?_
    refine al_y rfl rfl (y_moveP rfl rfl) ?_
    refine al_y rfl rfl (y_len rfl rfl rfl Tryz.underlying30) ?_
    refine al_y rfl rfl (y_eql rfl rfl rfl) ?_
    refine al_y rfl rfl (y_moveV rfl rfl) ?_
    refine al_maybe rfl rfl rfl (fun hg => y_moveV rfl rfl) ?_
    refine al_maybe rfl rfl rfl (fun hg => y_lss rfl (if_pos hg) rfl) ?_
    refine al_y rfl rfl (y_or rfl rfl rfl rfl) ?_
    refine al_y rfl rfl (y_moveV rfl rfl) ?_
    refine al_maybe rfl rfl rfl (fun hg => y_moveV rfl rfl) ?_
    refine al_maybe rfl rfl rfl (fun hg => y_fieldAddr rfl rfl fld25_0) ?_
    refine al_maybe rfl rfl rfl (fun hg => y_load1 rfl (if_pos hg) rfl ty22) ?_
    refine al_maybe rfl rfl rfl (fun hg => y_len rfl rfl (if_pos hg) Tryz.underlying22) ?_
    refine al_maybe rfl rfl rfl (fun hg => y_gtr rfl (if_pos hg) (if_pos hg)) ?_
    refine al_y rfl rfl (y_or rfl rfl rfl rfl) ?_
    refine al_y rfl rfl (y_moveV rfl rfl) ?_
    refine al_maybe rfl rfl rfl (fun hg => y_moveV rfl rfl) ?_
    refine al_maybe rfl rfl rfl (fun hg => y_lss rfl (if_pos hg) rfl) ?_
    refine al_y rfl rfl (y_or rfl rfl rfl rfl) ?_
    refine al_nil ?_
    refine qt_normal ?_
    refine ac_cond rfl (fun h_3 => ?_) (fun h_3 => ?_)
    ·
     exact absurd (h_3.symm.trans (rep_chk3 (by simp [hne]) (by simp; try omega) (by have := hg.1; simp; try omega) (by have := many_pos (p := g) hne; simp; try omega))) (by decide)
    ·
     have hg1 := hg.1
     refine ac_skip ?_
     refine qt_normal ?_
     refine ac_seq ?_
     refine ac_seq ?_
     refine ac_region ?_
     refine al_y rfl rfl (y_assignV rfl rfl) ?_
     refine al_nil ?_
     refine qt_normal ?_
     refine ac_block ?_
     refine ac_loop (ι := { q : Nat // q ≤ L.length }) (fun q => ⟨Tryz.f8.ntmps, frL [(2, I (o : Int)), (3, I at'), (4, .pub (.ptr (eCod c))), (9, .pub (eIntss L)), (11, I (g : Int)), (12, I ((manyAt L g : Nat) : Int)), (14, I (q.1 : Int))], []⟩) (fun q => L.length - q.1) (⟨0, by omega⟩) ?_ ?_
     ·
      exact weak_frM _ ⟨rfl, rfl, rfl, rfl, rfl, rfl, rfl, trivial⟩ (rfl)
     ·
      rintro ⟨q, hq⟩
      dsimp only
      refine ac_seq ?_
      refine ac_seq ?_
      refine ac_region ?_
      refine al_y rfl rfl (y_moveV rfl rfl) ?_
      refine al_y rfl rfl (y_moveP rfl rfl) ?_
      refine al_y rfl rfl (y_len rfl rfl rfl Tryz.underlying30) ?_
      refine al_y rfl rfl (y_lss rfl rfl rfl) ?_
      refine al_nil ?_
      refine qt_normal ?_
      refine ac_cond rfl (fun h_4 => ?_) (fun h_4 => ?_)
      ·
       have hlt : q < L.length := by simpa [eIntss] using h_4
       refine ac_skip ?_
       refine qt_normal ?_
       refine ac_seq ?_
       refine ac_block ?_
       refine ac_seq ?_
       refine ac_draw mixed (by kernel_rfl) rfl ?_
       refine aq_y rfl (y_loadN rfl rfl ty25 (by exact Nat.le_of_ble_eq_true rfl)) ?_
       refine aq_y rfl (y_moveP rfl rfl) ?_
       refine aq_y rfl (y_moveV rfl rfl) ?_
       refine aq_y rfl (y_indexAddr rfl rfl rfl slc30 (by omega) (ints_at hlt) ints_len) ?_
       refine aq_y rfl (y_load1 rfl rfl rfl ty23) ?_
       refine aq_y rfl (y_callF (av := [_, _]) rfl ⟨rfl, rfl, trivial⟩ (f32 c L[q] (by have := (hfm.2 _ (List.getElem_mem hlt)).2.1; omega))) ?_
       refine aq_y rfl (y_not rfl rfl) ?_
       refine aq_nil ?_
       refine qt_normal ?_
       refine ac_cond rfl (fun h_5 => ?_) (fun h_5 => ?_)
       ·
        exfalso; simp [(hfm.2 _ (List.getElem_mem hlt)).1] at h_5
       ·
        refine ac_skip ?_
        refine qb_normal ?_
        refine qt_normal ?_
        refine ac_region ?_
        refine al_y rfl rfl (y_moveV rfl rfl) ?_
        refine al_y rfl rfl (y_add rfl rfl rfl ⟨(by omega), (by omega)⟩) ?_
        refine al_y rfl rfl (y_assignV rfl rfl) ?_
        refine al_nil ?_
        exact ⟨⟨q + 1, by omega⟩, by dsimp only; omega, weak_frM _ ⟨rfl, rfl, rfl, rfl, rfl, rfl, rfl, trivial⟩ (rfl)⟩
      ·
       have hge : L.length ≤ q := by simpa [eIntss] using h_4
       refine ac_exit ?_
       refine qt_exit ?_
       refine qt_exit ?_
       refine qb_exit ?_
       refine qt_normal ?_
       refine ac_seq ?_
       refine ac_seq ?_
       refine ac_region ?_
       refine al_y rfl rfl (y_moveV rfl rfl) ?_
       refine al_y rfl rfl (y_geq rfl rfl rfl) ?_
       refine al_y rfl rfl (y_moveV rfl rfl) ?_
       refine al_maybe rfl rfl rfl (fun hg => y_moveV rfl rfl) ?_
       refine al_maybe rfl rfl rfl (fun hg => y_moveP rfl rfl) ?_
       refine al_maybe rfl rfl rfl (fun hg => y_len rfl rfl (if_pos hg) Tryz.underlying30) ?_
       refine al_maybe rfl rfl rfl (fun hg => y_lss rfl (if_pos hg) (if_pos hg)) ?_
       refine al_y rfl rfl (y_and rfl rfl rfl rfl) ?_
       refine al_nil ?_
       refine qt_normal ?_
       refine ac_cond rfl (fun h_6 => ?_) (fun h_6 => ?_)
       ·
        have hat : 0 ≤ at' ∧ at' < (L.length : Int) := by simpa [eIntss] using h_6
        have hat2 : at'.toNat < L.length := by omega
        refine ac_seq ?_
        refine ac_region ?_
        refine al_y rfl rfl (y_moveP rfl rfl) ?_
        refine al_y rfl rfl (y_moveV rfl rfl) ?_
        refine al_y rfl rfl (y_indexAddr rfl rfl rfl slc30 (by omega) (ints_at hat2) ints_len) ?_
        refine al_y rfl rfl (y_load1 rfl rfl rfl ty23) ?_
        refine al_y rfl rfl (y_callF (av := [_]) rfl ⟨rfl, trivial⟩ (f35 L[at'.toNat] (by have := (hfm.2 _ (List.getElem_mem hat2)).2.1; omega) (hfm.2 _ (List.getElem_mem hat2)).2.2)) ?_
        refine al_y rfl rfl (y_moveV rfl rfl) ?_
        refine al_y rfl rfl (y_indexAddr rfl rfl rfl slc34 (by omega) (grpsS_at (by have := (hfm.2 _ (List.getElem_mem hat2)).2.1; omega)) str_len) ?_
        refine al_y rfl rfl (y_load1 rfl rfl rfl ty9) ?_
        refine al_y rfl rfl (y_assignV rfl rfl) ?_
        refine al_y rfl rfl (y_assignV rfl rfl) ?_
        refine al_nil ?_
        refine qt_normal ?_
        refine ac_seq ?_
        refine ac_seq ?_
        refine ac_region ?_
        refine al_y rfl rfl (y_assignV rfl rfl) ?_
        refine al_nil ?_
        refine qt_normal ?_
        refine ac_block ?_
        refine ac_loop (ι := { r : Nat // r ≤ L.length }) (fun r => ⟨Tryz.f8.ntmps, frL [(2, I (o : Int)), (3, I at'), (4, .pub (.ptr (eCod c))), (9, .pub (eIntss L)), (11, I (g : Int)), (12, I ((manyAt L g : Nat) : Int)), (15, SL ((grpsS L[at'.toNat]).getD g [])), (16, I ((((strsAt L g).take r.1).count ((grpsS L[at'.toNat]).getD g []) : Nat) : Int)), (17, I (r.1 : Int))], []⟩) (fun r => L.length - r.1) (⟨0, by omega⟩) ?_ ?_
        ·
         exact weak_frM _ ⟨rfl, rfl, rfl, rfl, rfl, rfl, rfl, rfl, rfl, trivial⟩ (rfl)
        ·
         rintro ⟨r, hr⟩
         dsimp only
         refine ac_seq ?_
         refine ac_seq ?_
         refine ac_region ?_
         refine al_y rfl rfl (y_moveV rfl rfl) ?_
         refine al_y rfl rfl (y_moveP rfl rfl) ?_
         refine al_y rfl rfl (y_len rfl rfl rfl Tryz.underlying30) ?_
         refine al_y rfl rfl (y_lss rfl rfl rfl) ?_
         refine al_nil ?_
         refine qt_normal ?_
         refine ac_cond rfl (fun h_7 => ?_) (fun h_7 => ?_)
         ·
          have hlr : r < L.length := by simpa [eIntss] using h_7
          have hcs := cntS_step (ss := strsAt L g) (j := r) (by rw [strs_len]; exact hlr) ((grpsS L[at'.toNat]).getD g [])
          have hcl : ((strsAt L g).take r).count ((grpsS L[at'.toNat]).getD g []) ≤ ((strsAt L g).take r).length := List.count_le_length
          rw [List.length_take, strs_len] at hcl
          rw [strs_get hlr] at hcs
          refine ac_skip ?_
          refine qt_normal ?_
          refine ac_seq ?_
          refine ac_block ?_
          refine ac_seq ?_
          refine ac_region ?_
          refine al_y rfl rfl (y_moveP rfl rfl) ?_
          refine al_y rfl rfl (y_moveV rfl rfl) ?_
          refine al_y rfl rfl (y_indexAddr rfl rfl rfl slc30 (by omega) (ints_at hlr) ints_len) ?_
          refine al_y rfl rfl (y_load1 rfl rfl rfl ty23) ?_
          refine al_y rfl rfl (y_callF (av := [_]) rfl ⟨rfl, trivial⟩ (f35 L[r] (by have := (hfm.2 _ (List.getElem_mem hlr)).2.1; omega) (hfm.2 _ (List.getElem_mem hlr)).2.2)) ?_
          refine al_y rfl rfl (y_moveV rfl rfl) ?_
          refine al_y rfl rfl (y_indexAddr rfl rfl rfl slc34 (by omega) (grpsS_at (by have := (hfm.2 _ (List.getElem_mem hlr)).2.1; omega)) str_len) ?_
          refine al_y rfl rfl (y_load1 rfl rfl rfl ty9) ?_
          refine al_y rfl rfl (y_moveV rfl rfl) ?_
          refine al_y rfl rfl (y_eqlS rfl rfl rfl) ?_
          refine al_nil ?_
          refine qt_normal ?_
          refine ac_cond rfl (fun h_8 => ?_) (fun h_8 => ?_)
          ·
           have hb : (grpsS L[r]).getD g [] = ((grpsS L[at'.toNat]).getD g []) := by simpa using h_8
           rw [if_pos hb] at hcs
           refine ac_region ?_
           refine al_y rfl rfl (y_moveV rfl rfl) ?_
           refine al_y rfl rfl (y_add rfl rfl rfl ⟨(by omega), (by omega)⟩) ?_
           refine al_y rfl rfl (y_assignV rfl rfl) ?_
           refine al_nil ?_
           refine qb_normal ?_
           refine qt_normal ?_
           refine ac_region ?_
           refine al_y rfl rfl (y_moveV rfl rfl) ?_
           refine al_y rfl rfl (y_add rfl rfl rfl ⟨(by omega), (by omega)⟩) ?_
           refine al_y rfl rfl (y_assignV rfl rfl) ?_
           refine al_nil ?_
           exact ⟨⟨r + 1, by omega⟩, by dsimp only; omega, weak_frM _ ⟨rfl, rfl, rfl, rfl, rfl, rfl, rfl, (congrArg I (by rw [hcs]; omega)), rfl, trivial⟩ (rfl)⟩
          ·
           have hb : ¬ (grpsS L[r]).getD g [] = ((grpsS L[at'.toNat]).getD g []) := by simpa using h_8
           rw [if_neg hb, Nat.add_zero] at hcs
           refine ac_skip ?_
           refine qb_normal ?_
           refine qt_normal ?_
           refine ac_region ?_
           refine al_y rfl rfl (y_moveV rfl rfl) ?_
           refine al_y rfl rfl (y_add rfl rfl rfl ⟨(by omega), (by omega)⟩) ?_
           refine al_y rfl rfl (y_assignV rfl rfl) ?_
           refine al_nil ?_
           exact ⟨⟨r + 1, by omega⟩, by dsimp only; omega, weak_frM _ ⟨rfl, rfl, rfl, rfl, rfl, rfl, rfl, (congrArg I (by rw [hcs]; omega)), rfl, trivial⟩ (rfl)⟩
         ·
          have hgr : L.length ≤ r := by simpa [eIntss] using h_7
          have hr2 : r = L.length := by omega
          refine ac_exit ?_
          refine qt_exit ?_
          refine qt_exit ?_
          refine qb_exit ?_
          refine qt_normal ?_
          refine ac_seq ?_
          refine ac_region ?_
          refine al_y rfl rfl (y_moveV rfl rfl) ?_
          refine al_y rfl rfl (y_moveV rfl rfl) ?_
          refine al_y rfl rfl (y_gtr rfl rfl rfl) ?_
          refine al_nil ?_
          refine qt_normal ?_
          refine ac_cond rfl (fun h_9 => ?_) (fun h_9 => ?_)
          ·
           exfalso
           have h1 := many_ge (L := L) (p := g) (i := at'.toNat) (fun m hm => by have := (hfm.2 m hm).2.1; omega) hat2
           rw [strs_get hat2] at h1
           rw [hr2, List.take_of_length_le (by rw [strs_len]; exact Nat.le_refl _)] at h_9
           simp only [decide_eq_true_eq] at h_9
           omega
          ·
           refine ac_skip ?_
           refine qt_normal ?_
           refine ac_seq ?_
           refine ac_region ?_
           refine al_y rfl rfl (y_moveP rfl rfl) ?_
           refine al_y rfl rfl (y_moveV rfl rfl) ?_
           refine al_y rfl rfl (y_callF (av := [_, _]) rfl ⟨rfl, rfl, trivial⟩ (f45 L o hLb (fun m hm => by have := hfm.2 m hm; exact ⟨by omega, by omega, this.2.2⟩))) ?_
           refine al_y rfl rfl (y_assignV rfl rfl) ?_
           refine al_nil ?_
           refine qt_normal ?_
           refine ac_seq ?_
           refine ac_region ?_
           refine al_y rfl rfl (y_moveV rfl rfl) ?_
           refine al_y rfl rfl (y_moveV rfl rfl) ?_
           refine al_y rfl rfl (y_gtr rfl rfl rfl) ?_
           refine al_y rfl rfl (y_moveV rfl rfl) ?_
           refine al_maybe rfl rfl rfl (fun hg => y_moveV rfl rfl) ?_
           refine al_maybe rfl rfl rfl (fun hg => y_moveV rfl rfl) ?_
           refine al_maybe rfl rfl rfl (fun hg => y_eql rfl (if_pos hg) (if_pos hg)) ?_
           refine al_maybe rfl rfl rfl (fun hg => y_moveV rfl (if_pos hg)) ?_
           refine al_maybe rfl (wanted_ite rfl rfl rfl) rfl (fun hg => y_moveV rfl rfl) ?_
           refine al_maybe rfl (wanted_ite rfl rfl rfl) rfl (fun hg => y_moveV rfl rfl) ?_
           refine al_maybe rfl (wanted_ite rfl rfl rfl) rfl (fun hg => y_geq rfl (if_pos hg) (if_pos hg)) ?_
           refine al_maybe rfl rfl rfl (fun hg => y_and rfl (if_pos hg) (ite_and hg) rfl) ?_
           refine al_y rfl rfl (y_or rfl rfl rfl rfl) ?_
           refine al_y rfl rfl (y_moveV rfl rfl) ?_
           refine al_maybe rfl rfl rfl (fun hg => y_callF (av := []) rfl trivial hk) ?_
           refine al_y rfl rfl (y_and rfl rfl rfl rfl) ?_
           refine al_y rfl rfl (y_assignV rfl rfl) ?_
           refine al_nil ?_
           refine qt_normal ?_
           refine ac_ret ?_
           exact ⟨.inr rfl, AVle.of (congrArg (fun x : Bool => AV.v (Value.bool x)) (by rw [left_many (fun m hm => by have := (hfm.2 m hm).2.1; omega)]; exact rep_fin (hg.2.2 o (by omega))))⟩
       ·
        refine ac_skip ?_
        refine qt_normal ?_
        refine ac_seq ?_
        refine ac_region ?_
        refine al_y rfl rfl (y_moveP rfl rfl) ?_
        refine al_y rfl rfl (y_moveV rfl rfl) ?_
        refine al_y rfl rfl (y_callF (av := [_, _]) rfl ⟨rfl, rfl, trivial⟩ (f45 L o hLb (fun m hm => by have := hfm.2 m hm; exact ⟨by omega, by omega, this.2.2⟩))) ?_
        refine al_y rfl rfl (y_assignV rfl rfl) ?_
        refine al_nil ?_
        refine qt_normal ?_
        refine ac_seq ?_
        refine ac_region ?_
        refine al_y rfl rfl (y_moveV rfl rfl) ?_
        refine al_y rfl rfl (y_moveV rfl rfl) ?_
        refine al_y rfl rfl (y_gtr rfl rfl rfl) ?_
        refine al_y rfl rfl (y_moveV rfl rfl) ?_
        refine al_maybe rfl rfl rfl (fun hg => y_moveV rfl rfl) ?_
        refine al_maybe rfl rfl rfl (fun hg => y_moveV rfl rfl) ?_
        refine al_maybe rfl rfl rfl (fun hg => y_eql rfl (if_pos hg) (if_pos hg)) ?_
        refine al_maybe rfl rfl rfl (fun hg => y_moveV rfl (if_pos hg)) ?_
        refine al_maybe rfl (wanted_ite rfl rfl rfl) rfl (fun hg => y_moveV rfl rfl) ?_
        refine al_maybe rfl (wanted_ite rfl rfl rfl) rfl (fun hg => y_moveV rfl rfl) ?_
        refine al_maybe rfl (wanted_ite rfl rfl rfl) rfl (fun hg => y_geq rfl (if_pos hg) (if_pos hg)) ?_
        refine al_maybe rfl rfl rfl (fun hg => y_and rfl (if_pos hg) (ite_and hg) rfl) ?_
        refine al_y rfl rfl (y_or rfl rfl rfl rfl) ?_
        refine al_y rfl rfl (y_moveV rfl rfl) ?_
        refine al_maybe rfl rfl rfl (fun hg => y_callF (av := []) rfl trivial hk) ?_
        refine al_y rfl rfl (y_and rfl rfl rfl rfl) ?_
        refine al_y rfl rfl (y_assignV rfl rfl) ?_
        refine al_nil ?_
        refine qt_normal ?_
        refine ac_ret ?_
        exact ⟨.inr rfl, AVle.of (congrArg (fun x : Bool => AV.v (Value.bool x)) (by rw [left_many (fun m hm => by have := (hfm.2 m hm).2.1; omega)]; exact rep_fin (hg.2.2 o (by omega))))⟩

theorem f8 (hk : KN G) (c : Cod) (l : List (List (List UInt8))) (o at' : Int) : ACall Tryz.prog G 8 [.agg (eCod c), eCps l, ei o, ei at'] (.v (.bool true)) := by
  by_cases h : 0 ≤ o
  · obtain ⟨o, rfl⟩ := Int.eq_ofNat_of_zero_le h
    exact f8_main hk c l o at' (fndL c l) rfl
  · exact f8_far hk c l o at' (by omega)
end Go.Av
end
