/- Least and greatest bounds are fields of a map that is possible; and so is what is as great as can be with a value at a point. · ChartSharp. -/
import Derived.Test.YtdjncbjfejdamaaGreatDoorChO
import Derived.Test.YtdjncbjfejdamaaGreatDoorChG
import Derived.Test.YtdjncbjfejdamaaGreatDoorChJ
set_option linter.unusedVariables false
set_option linter.unusedSimpArgs false
section
namespace Go.Av
open Go.Proofs

theorem loOf_ge {w sl p : Int} {l : List Stn} {s : Stn} (hs : s ∈ l) : s.lo - sl * dist w p s.pt ≤ loOf w sl p l := by
  unfold loOf
  have key : ∀ (l : List Stn) (b : Int), b ≤ l.foldl (fun a s => max a (s.lo - sl * dist w p s.pt)) b := by
    intro l
    induction l with
    | nil => intro b; exact Int.le_refl _
    | cons t l ih => intro b; exact Int.le_trans (Int.le_max_left _ _) (ih _)
  have key2 : ∀ (l : List Stn) (b : Int), s ∈ l → s.lo - sl * dist w p s.pt ≤ l.foldl (fun a s => max a (s.lo - sl * dist w p s.pt)) b := by
    intro l
    induction l with
    | nil => intro b h; cases h
    | cons t l ih =>
      intro b h
      rcases List.mem_cons.1 h with rfl | h
      · exact Int.le_trans (Int.le_max_right _ _) (key l _)
      · exact ih _ h
  exact key2 l 0 hs
theorem hiOf_le {w sl p : Int} {l : List Stn} {s : Stn} (hs : s ∈ l) : hiOf w sl p l ≤ s.hi + sl * dist w p s.pt := by
  unfold hiOf
  have key : ∀ (l : List Stn) (b : Int), l.foldl (fun a s => min a (s.hi + sl * dist w p s.pt)) b ≤ b := by
    intro l
    induction l with
    | nil => intro b; exact Int.le_refl _
    | cons t l ih => intro b; exact Int.le_trans (ih _) (Int.min_le_left _ _)
  have key2 : ∀ (l : List Stn) (b : Int), s ∈ l → l.foldl (fun a s => min a (s.hi + sl * dist w p s.pt)) b ≤ s.hi + sl * dist w p s.pt := by
    intro l
    induction l with
    | nil => intro b h; cases h
    | cons t l ih =>
      intro b h
      rcases List.mem_cons.1 h with rfl | h
      · exact Int.le_trans (key l _) (Int.min_le_right _ _)
      · exact ih _ h
  exact key2 l 99999 hs
theorem loOf_le {w sl p X : Int} {l : List Stn} (h0 : 0 ≤ X) (h : ∀ s ∈ l, s.lo - sl * dist w p s.pt ≤ X) : loOf w sl p l ≤ X :=
  foldl_inv _ (fun b => b ≤ X) l 0 h0 fun b s hs hb => by have := h s hs; omega
theorem hiOf_ge {w sl p X : Int} {l : List Stn} (h0 : X ≤ 99999) (h : ∀ s ∈ l, X ≤ s.hi + sl * dist w p s.pt) : X ≤ hiOf w sl p l :=
  foldl_inv _ (fun b => X ≤ b) l 99999 h0 fun b s hs hb => by have := h s hs; omega

theorem dist_tri {W : Nat} {a b c : Int} (ha : 0 ≤ a) (hb : 0 ≤ b) (hc : 0 ≤ c) : dist (W : Int) a b ≤ dist (W : Int) a c + dist (W : Int) c b := by
  obtain ⟨a, rfl⟩ := Int.eq_ofNat_of_zero_le ha
  obtain ⟨b, rfl⟩ := Int.eq_ofNat_of_zero_le hb
  obtain ⟨c, rfl⟩ := Int.eq_ofNat_of_zero_le hc
  rw [dist_nat, dist_nat, dist_nat]
  have := dN_tri W a b c
  omega
theorem sl_tri {s a b c : Int} (hs : 0 ≤ s) (h : a ≤ b + c) : s * a ≤ s * b + s * c := by
  rw [← Int.mul_add]; exact Int.mul_le_mul_of_nonneg_left h hs
theorem okM.tri {m : Mp} (hm : okM m) {a b c : Int} (ha : 0 ≤ a) (hb : 0 ≤ b) (hc : 0 ≤ c) : m.slope * dist m.wide a b ≤ m.slope * dist m.wide a c + m.slope * dist m.wide c b := by
  obtain ⟨W, R, eW, _⟩ := hm.W
  rw [eW]
  exact sl_tri hm.2.2.2.2.1 (dist_tri ha hb hc)
theorem okM.dnn {m : Mp} (hm : okM m) {a b : Int} (ha : 0 ≤ a) (hb : 0 ≤ b) : 0 ≤ m.slope * dist m.wide a b := by
  obtain ⟨W, R, eW, _⟩ := hm.W
  obtain ⟨a, rfl⟩ := Int.eq_ofNat_of_zero_le ha
  obtain ⟨b, rfl⟩ := Int.eq_ofNat_of_zero_le hb
  rw [eW, dist_nat]
  exact Int.mul_nonneg hm.2.2.2.2.1 (by omega)
theorem okM.pt0 {m : Mp} (hm : okM m) {s : Stn} (hs : s ∈ m.st) : 0 ≤ s.pt := (hm.2.2.2.2.2.2.2 s hs).1

theorem no_clash {m : Mp} (hm : okM m) (hc : clashOf m = none) {s t : Stn} (hs : s ∈ m.st) (ht : t ∈ m.st) : s.lo - m.slope * dist m.wide s.pt t.pt ≤ t.hi := by
  obtain ⟨a, ha, rfl⟩ := List.getElem_of_mem hs
  obtain ⟨b, hb, rfl⟩ := List.getElem_of_mem ht
  have key : ∀ x y : Nat, (hx : x < m.st.length) → (hy : y < m.st.length) → x < y → m.st[x].lo - m.slope * dist m.wide m.st[x].pt m.st[y].pt ≤ m.st[y].hi ∧ m.st[y].lo - m.slope * dist m.wide m.st[x].pt m.st[y].pt ≤ m.st[x].hi := fun x y hx hy hxy => by
    have := firstPair_all hc x y hxy hy
    rw [pairB_at hx hy] at this
    unfold apartB at this
    simp only [Bool.or_eq_false_iff, decide_eq_false_iff_not] at this
    omega
  rcases Nat.lt_trichotomy a b with h | h | h
  · exact (key a b ha hb h).1
  · subst h
    rw [dist_self]
    have := hm.2.2.2.2.2.2.2 _ hs
    omega
  · have := (key b a hb ha h).2
    rw [dist_comm]; exact this

section
variable {m : Mp}
theorem lo_lip (hm : okM m) {i j : Int} (hi : 0 ≤ i) (hj : 0 ≤ j) : loOf m.wide m.slope i m.st ≤ loOf m.wide m.slope j m.st + m.slope * dist m.wide i j :=
  loOf_le (by have := hm.dnn hi hj; have : 0 ≤ loOf m.wide m.slope j m.st := foldl_inv _ (fun b => 0 ≤ b) m.st 0 (Int.le_refl _) (fun b s _ hb => by omega); omega) fun s hs => by
    have h1 := loOf_ge (w := m.wide) (sl := m.slope) (p := j) hs
    have h2 := hm.tri (a := j) (b := s.pt) (c := i) hj (hm.pt0 hs) hi
    rw [dist_comm m.wide j i] at h2
    omega
theorem hi_lip (hm : okM m) {i j : Int} (hi : 0 ≤ i) (hj : 0 ≤ j) : hiOf m.wide m.slope i m.st ≤ hiOf m.wide m.slope j m.st + m.slope * dist m.wide i j := by
  have : hiOf m.wide m.slope i m.st - m.slope * dist m.wide i j ≤ hiOf m.wide m.slope j m.st := hiOf_ge (by
    have := hm.dnn hi hj
    have : hiOf m.wide m.slope i m.st ≤ 99999 := foldl_inv _ (fun b => b ≤ 99999) m.st 99999 (Int.le_refl _) (fun b s _ hb => by omega)
    omega) fun s hs => by
    have h1 := hiOf_le (w := m.wide) (sl := m.slope) (p := i) hs
    have h2 := hm.tri (a := i) (b := s.pt) (c := j) hi (hm.pt0 hs) hj
    omega
  omega
theorem lo_hi (hm : okM m) (hc : clashOf m = none) {p : Int} (hp : 0 ≤ p) : loOf m.wide m.slope p m.st ≤ hiOf m.wide m.slope p m.st := by
  have h99 : loOf m.wide m.slope p m.st ≤ 99999 := loOf_le (by omega) fun s hs => by
    have := hm.2.2.2.2.2.2.2 s hs
    have := hm.dnn hp (hm.pt0 hs)
    omega
  refine hiOf_ge h99 fun s hs => loOf_le ?_ fun t ht => ?_
  · have := hm.2.2.2.2.2.2.2 s hs
    have := hm.dnn hp (hm.pt0 hs)
    omega
  · have h1 := no_clash hm hc ht hs
    have h2 := hm.tri (a := t.pt) (b := s.pt) (c := p) (hm.pt0 ht) (hm.pt0 hs) hp
    rw [dist_comm m.wide t.pt p] at h2
    omega
theorem lo_st (hm : okM m) (hc : clashOf m = none) {s : Stn} (hs : s ∈ m.st) : s.lo ≤ loOf m.wide m.slope s.pt m.st ∧ loOf m.wide m.slope s.pt m.st ≤ s.hi := by
  have h1 := loOf_ge (w := m.wide) (sl := m.slope) (p := s.pt) hs
  rw [dist_self] at h1
  refine ⟨by omega, loOf_le (by have := hm.2.2.2.2.2.2.2 s hs; omega) fun t ht => ?_⟩
  have := no_clash hm hc ht hs
  rw [dist_comm] at this; exact this
theorem hi_st (hm : okM m) (hc : clashOf m = none) {s : Stn} (hs : s ∈ m.st) : s.lo ≤ hiOf m.wide m.slope s.pt m.st ∧ hiOf m.wide m.slope s.pt m.st ≤ s.hi := by
  have h1 := hiOf_le (w := m.wide) (sl := m.slope) (p := s.pt) hs
  rw [dist_self] at h1
  refine ⟨hiOf_ge (by have := hm.2.2.2.2.2.2.2 s hs; omega) fun t ht => ?_, by omega⟩
  have := no_clash hm hc hs ht
  omega

/-- A field by a function of its points. -/
def fnF (m : Mp) (g : Nat → Int) : Fld := ⟨m.wide, (List.range (npt m)).map g⟩
theorem fnF_len (g : Nat → Int) : (fnF m g).vals.length = npt m := by simp [fnF]
theorem fnF_at {g : Nat → Int} {i : Nat} (hi : i < npt m) : vAt (fnF m g) i = g i := by simp [vAt, fnF, List.getD, hi]
theorem fnF_fits (hm : okM m) {g : Nat → Int} (h1 : ∀ i j : Nat, g i ≤ g j + m.slope * dist m.wide (i : Int) (j : Int)) (h2 : ∀ s ∈ m.st, s.lo ≤ g s.pt.toNat ∧ g s.pt.toNat ≤ s.hi) : FitsM m (fnF m g) := by
  have hn := npt_bd hm
  refine ⟨rfl, by rw [fnF_len]; exact hn.1, fun i j hi hj hd => ?_, fun s hs => ?_⟩
  · rw [fnF_len] at hi hj
    rw [fnF_at hi, fnF_at hj]
    have := h1 i j
    rw [hd] at this
    omega
  · have := hm.2.2.2.2.2.2.2 s hs
    rw [fnF_at (by omega)]
    exact h2 s hs
theorem fnF_field (hm : okM m) {g : Nat → Int} (h : ∀ i, i < npt m → 0 ≤ g i ∧ g i ≤ 99999) : fieldB (fnF m g) = true := by
  have hn := npt_bd hm
  have ho := hm
  obtain ⟨m1, m2, m3, m4, _⟩ := ho
  have hw : (fnF m g).wide = m.wide := rfl
  unfold fieldB shapeB valsB
  rw [fnF_len, hw, hn.1]
  have e1 : m.wide * m.rows % m.wide = 0 := Int.mul_emod_right _ _
  have e2 : m.wide * m.rows / m.wide = m.rows := Int.mul_ediv_cancel_left _ (by omega)
  rw [e1, e2, inB_iff.2 ⟨m1, m2⟩, inB_iff.2 ⟨m3, m4⟩]
  simp only [beq_self_eq_true, Bool.and_self, Bool.true_and, Bool.not_eq_true', List.any_eq_false]
  intro n hn'
  obtain ⟨i, hi, rfl⟩ := List.mem_map.1 hn'
  have := inB_iff.2 (h i (List.mem_range.1 hi))
  simp [this]

def loG (m : Mp) (i : Nat) : Int := loOf m.wide m.slope (i : Int) m.st
def hiG (m : Mp) (i : Nat) : Int := hiOf m.wide m.slope (i : Int) m.st
def zG (m : Mp) (p : Nat) (n : Int) (i : Nat) : Int := min (hiG m i) (n + m.slope * dist m.wide (p : Int) (i : Int))
theorem st_pt (hm : okM m) {s : Stn} (hs : s ∈ m.st) : ((s.pt.toNat : Nat) : Int) = s.pt := by have := hm.pt0 hs; omega
theorem loG_fits (hm : okM m) (hc : clashOf m = none) : FitsM m (fnF m (loG m)) :=
  fnF_fits hm (fun i j => lo_lip hm (by omega) (by omega)) fun s hs => by unfold loG; rw [st_pt hm hs]; exact lo_st hm hc hs
theorem hiG_fits (hm : okM m) (hc : clashOf m = none) : FitsM m (fnF m (hiG m)) :=
  fnF_fits hm (fun i j => hi_lip hm (by omega) (by omega)) fun s hs => by unfold hiG; rw [st_pt hm hs]; exact hi_st hm hc hs
theorem zG_fits (hm : okM m) (hc : clashOf m = none) {p : Nat} {n : Int} (h1 : loG m p ≤ n) : FitsM m (fnF m (zG m p n)) := by
  refine fnF_fits hm (fun i j => ?_) fun s hs => ?_
  · have a := hi_lip hm (i := (i : Int)) (j := (j : Int)) (by omega) (by omega)
    have b := hm.tri (a := (p : Int)) (b := (i : Int)) (c := (j : Int)) (by omega) (by omega) (by omega)
    rw [dist_comm m.wide (j : Int) (i : Int)] at b
    unfold zG hiG
    omega
  · have a := hi_st hm hc hs
    have b := loOf_ge (w := m.wide) (sl := m.slope) (p := (p : Int)) hs
    unfold zG hiG
    unfold loG at h1
    rw [st_pt hm hs]
    omega
theorem loG_bd (hm : okM m) {i : Nat} (hi : i < npt m) : 0 ≤ loG m i ∧ loG m i ≤ 99999 := by
  have hn := npt_bd hm
  have := hm.lo (p := (i : Int)) (by omega) m.st.length
  rw [List.take_of_length_le (Nat.le_refl _)] at this
  exact this
theorem hiG_bd (hm : okM m) {i : Nat} (hi : i < npt m) : 0 ≤ hiG m i ∧ hiG m i ≤ 99999 := by
  have hn := npt_bd hm
  have := hm.hi (p := (i : Int)) (by omega) m.st.length
  rw [List.take_of_length_le (Nat.le_refl _)] at this
  exact this
theorem zG_bd (hm : okM m) {p : Nat} {n : Int} (h0 : 0 ≤ n) {i : Nat} (hi : i < npt m) : 0 ≤ zG m p n i ∧ zG m p n i ≤ 99999 := by
  have a := hiG_bd hm hi
  have b := hm.dnn (a := (p : Int)) (b := (i : Int)) (by omega) (by omega)
  unfold zG; omega
theorem zG_at {p : Nat} {n : Int} (h2 : n ≤ hiG m p) : zG m p n p = n := by
  unfold zG; rw [dist_self]; omega
end
end Go.Av
end

section
namespace Go.Av
open Go.Proofs
set_option maxRecDepth 100000
set_option maxHeartbeats 1000000
set_option linter.unusedSimpArgs false
variable {G : Glob}

def possB (m : Mp) : Bool := decide ((m.st.length : Int) ≤ 16) && mapB m && noneB m
theorem f65 (m : Mp) (hm : okM m) : ACall Tryz.prog G 65 [.agg (eMp m)] (.v (.bool (noneB m))) := by
  cases hc : clashOf m with
  | none => have h := f65_none (G := G) m hm hc; unfold noneB; rw [hc]; exact h
  | some p => have h := f65_some (G := G) m hm p hc; unfold noneB; rw [hc]; exact h
theorem possB_iff {m : Mp} (h : possB m = true) : okM m ∧ clashOf m = none := by
  unfold possB noneB at h
  simp only [Bool.and_eq_true, decide_eq_true_eq, Option.isNone_iff_eq_none] at h
  exact ⟨(okM_iff m).1 h.1.2, h.2⟩
theorem f54_true (m : Mp) (f : Fld) (hl : f.vals.length ≤ 1000) (hm : okM m) (hf : fieldB f = true) (hF : FitsM m f) : ACall Tryz.prog G 54 [.agg (eMp m), .agg (eFld f)] (.tup [.v (.bool true), ei 0]) := by
  have h := f54_fits (G := G) m f hl hm hf
  rw [fitsB_iff.2 hF] at h
  exact h

/-- isobarlaw03.possible -/
theorem f44 (m : Mp) : ACall Tryz.prog G 44 [.agg (eMp m)] (.v (.bool (possB m))) := by
  refine acall_of Tryz.func44 rfl (by kernel_rfl) rfl ?_
  refine ac_seq ?_
  refine ac_region ?_
  refine al_y rfl rfl (y_box rfl (cE_agg rfl)) ?_
  refine al_y rfl rfl (y_assignV rfl rfl) ?_
  refine al_nil ?_
  refine qt_normal ?_
  refine ac_seq ?_
  refine ac_region ?_
  refine al_y rfl rfl (y_loadN rfl rfl ty24 (by exact Nat.le_of_ble_eq_true rfl)) ?_
  refine al_y rfl rfl (y_callF (av := [_]) rfl ⟨rfl, trivial⟩ (f20 m)) ?_
  refine al_y rfl rfl (y_moveV rfl rfl) ?_
  refine al_maybe rfl rfl rfl (fun hg => y_loadN rfl rfl ty24 (by exact Nat.le_of_ble_eq_true rfl)) ?_
  refine al_maybe rfl rfl rfl (fun hg => y_callF (av := [_]) rfl ⟨((if_pos hg)), trivial⟩ (f40 m)) ?_
  refine al_y rfl rfl (y_and rfl rfl rfl rfl) ?_
  refine al_y rfl rfl (y_moveV rfl rfl) ?_
  refine al_maybe rfl rfl rfl (fun hg => y_loadN rfl rfl ty24 (by exact Nat.le_of_ble_eq_true rfl)) ?_
  refine al_maybe rfl rfl rfl (fun hg => y_callF (av := [_]) rfl ⟨((if_pos hg)), trivial⟩ (f65 m ((okM_iff m).1 (by have h := hg; simp at h; exact h.2)))) ?_
  refine al_y rfl rfl (y_and rfl rfl rfl rfl) ?_
  refine al_y rfl rfl (y_assignV rfl rfl) ?_
  refine al_nil ?_
  refine qt_normal ?_
  refine ac_ret ?_
  exact ⟨.inr rfl, AVle.refl _⟩

/-- isobarlaw03.ChartSharp -/
theorem f15_triv (hkn : KN G) (m : Mp) (p c : Int) (h : ¬ (possB m = true ∧ 0 ≤ p ∧ p < m.wide * m.rows ∧ 0 ≤ c ∧ c ≤ 100)) : ACall Tryz.prog G 15 [.agg (eMp m), .v (.int .i64 p), .v (.int .i64 c)] (.v (.bool true)) := by
  refine acall_of Tryz.func15 rfl (by kernel_rfl) rfl ?_
  refine ac_seq ?_
  refine ac_region ?_
  refine al_y rfl rfl (y_box rfl (cE_agg rfl)) ?_
  refine al_y rfl rfl (y_assignV rfl rfl) ?_
  refine al_nil ?_
  refine qt_normal ?_
  refine ac_seq ?_
  refine ac_seq ?_
  refine ac_region ?_
  refine al_y rfl rfl (y_loadN rfl rfl ty24 (by exact Nat.le_of_ble_eq_true rfl)) ?_
  refine al_y rfl rfl (y_callF (av := [_]) rfl ⟨rfl, trivial⟩ (f44 m)) ?_
  refine al_y rfl rfl (y_not rfl rfl) ?_
  refine al_y rfl rfl (y_moveV rfl rfl) ?_
  refine al_maybe rfl rfl rfl (fun hg => y_loadN rfl rfl ty24 (by exact Nat.le_of_ble_eq_true rfl)) ?_
  refine al_maybe rfl rfl rfl (fun hg => y_moveV rfl rfl) ?_
  refine al_maybe rfl rfl rfl (fun hg => y_callF (av := [_, _]) rfl ⟨((if_pos hg)), ((if_pos hg)), trivial⟩ (f41 m p (by have h2 := (possB_iff (by simpa using hg)).1; exact ⟨h2.1, h2.2.1⟩) (by have h2 := (possB_iff (by simpa using hg)).1; exact ⟨h2.2.2.1, h2.2.2.2.1⟩))) ?_
  refine al_maybe rfl rfl rfl (fun hg => y_not rfl (if_pos hg)) ?_
  refine al_y rfl rfl (y_or rfl rfl rfl rfl) ?_
  refine al_y rfl rfl (y_moveV rfl rfl) ?_
  refine al_maybe rfl rfl rfl (fun hg => y_moveV rfl rfl) ?_
  refine al_maybe rfl rfl rfl (fun hg => y_lss rfl (if_pos hg) rfl) ?_
  refine al_y rfl rfl (y_or rfl rfl rfl rfl) ?_
  refine al_y rfl rfl (y_moveV rfl rfl) ?_
  refine al_maybe rfl rfl rfl (fun hg => y_moveV rfl rfl) ?_
  refine al_maybe rfl rfl rfl (fun hg => y_gtr rfl (if_pos hg) rfl) ?_
  refine al_y rfl rfl (y_or rfl rfl rfl rfl) ?_
  refine al_nil ?_
  refine qt_normal ?_
  refine ac_cond rfl (fun h0 => ?_) (fun h0 => ?_)
  · skip
    refine ac_seq ?_
    refine ac_region ?_
    refine al_y rfl rfl (y_callF (av := []) rfl trivial hkn) ?_
    refine al_y rfl rfl (y_assignV rfl rfl) ?_
    refine al_nil ?_
    refine qt_normal ?_
    refine ac_ret ?_
    refine qt_ret ?_
    exact ⟨.inr rfl, AVle.refl _⟩
  · skip
    exfalso; simp at h0; apply h; obtain ⟨⟨⟨q1, q2⟩, q3⟩, q4⟩ := h0; have q2 := inB_iff.1 q2; exact ⟨q1, q2.1, by omega, q3, q4⟩

theorem rg_snoc {g : Nat → Int} (k : Nat) : (List.range k).map (fun i => [I (g i)]) ++ [[I (g k)]] = (List.range (k + 1)).map (fun i => [I (g i)]) := range_snoc (fun i => [I (g i)]) k
theorem fn_rows (m : Mp) (g : Nat → Int) : (List.range (npt m)).map (fun i => [I (g i)]) = (((fnF m g).vals.map fun n => [AV.v (.int .i64 n)]).map (fun r => r.map EV.pub)) := by simp [fnF, Function.comp_def]
theorem fn_at {m : Mp} {g : Nat → Int} {i : Nat} (hi : i < npt m) : ((fnF m g).vals.map fun n => [AV.v (.int .i64 n)])[i]? = some [.v (.int .i64 (g i))] := by simp [fnF, hi]
theorem mem_eqG {M : List PO} {X X' Y Y' Z Z' : List (List EV)} {w r s w' r' s' : List EV} (h0 : w = w') (h1 : r = r') (h2 : s = s') (hx : X = X') (hy : Y = Y') (hz : Z = Z') : [PO.row [w], PO.row [r], PO.row [s], PO.row X, PO.row Y, PO.row Z] = [PO.row [w'], PO.row [r'], PO.row [s'], PO.row X', PO.row Y', PO.row Z'] := by subst h0; subst h1; subst h2; subst hx; subst hy; subst hz; rfl

/-- isobarlaw03.ChartSharp -/
theorem f15_main (hkn : KN G) (m : Mp) (p : Nat) (c : Int) (hm : okM m) (hpo : possB m = true) (hc : clashOf m = none) (hp : p < npt m) (hc0 : 0 ≤ c) (hc1 : c ≤ 100) (n : Int) (hn : n = loG m p + (hiG m p - loG m p) * c / 100) (hn1 : loG m p ≤ n) (hn2 : n ≤ hiG m p) : ACall Tryz.prog G 15 [.agg (eMp m), .v (.int .i64 (p : Int)), .v (.int .i64 c)] (.v (.bool true)) := by
  have hN := npt_bd hm
  have ho := hm
  obtain ⟨m1, m2, m3, m4, m5, m6, m7, m8⟩ := ho
  have har := area m1 m2 m3 m4
  have hpl : p < (bds m).length := by rw [bds_len]; exact hp
  have hb1 := loG_bd hm hp
  have hb2 := hiG_bd hm hp
  have e1 : (bds m)[p].1 = loG m p := by rw [bds_at hpl]; rfl
  have e2 : (bds m)[p].2 = hiG m p := by rw [bds_at hpl]; rfl
  have hlh : loG m p ≤ hiG m p := by omega
  have hmm : 0 ≤ ((bds m)[p].2 - (bds m)[p].1) * c ∧ ((bds m)[p].2 - (bds m)[p].1) * c ≤ 9999900 := by rw [e1, e2]; exact ⟨Int.mul_nonneg (by omega) hc0, Int.le_trans (Int.mul_le_mul_of_nonneg_left hc1 (by omega)) (by omega)⟩
  have hqq : 0 ≤ (((bds m)[p].2 - (bds m)[p].1) * c) / 100 ∧ (((bds m)[p].2 - (bds m)[p].1) * c) / 100 ≤ 99999 := by omega
  refine acall_of Tryz.func15 rfl (by kernel_rfl) rfl ?_
  refine ac_seq ?_
  refine ac_region ?_
  refine al_y rfl rfl (y_box rfl (cE_agg rfl)) ?_
  refine al_y rfl rfl (y_assignV rfl rfl) ?_
  refine al_nil ?_
  refine qt_normal ?_
  refine ac_seq ?_
  refine ac_seq ?_
  refine ac_region ?_
  refine al_y rfl rfl (y_loadN rfl rfl ty24 (by exact Nat.le_of_ble_eq_true rfl)) ?_
  refine al_y rfl rfl (y_callF (av := [_]) rfl ⟨rfl, trivial⟩ (f44 m)) ?_
  refine al_y rfl rfl (y_not rfl rfl) ?_
  refine al_y rfl rfl (y_moveV rfl rfl) ?_
  refine al_maybe rfl rfl rfl (fun hg => y_loadN rfl rfl ty24 (by exact Nat.le_of_ble_eq_true rfl)) ?_
  refine al_maybe rfl rfl rfl (fun hg => y_moveV rfl rfl) ?_
  refine al_maybe rfl rfl rfl (fun hg => y_callF (av := [_, _]) rfl ⟨((if_pos hg)), ((if_pos hg)), trivial⟩ (f41 m (p : Int) ⟨m1, m2⟩ ⟨m3, m4⟩)) ?_
  refine al_maybe rfl rfl rfl (fun hg => y_not rfl (if_pos hg)) ?_
  refine al_y rfl rfl (y_or rfl rfl rfl rfl) ?_
  refine al_y rfl rfl (y_moveV rfl rfl) ?_
  refine al_maybe rfl rfl rfl (fun hg => y_moveV rfl rfl) ?_
  refine al_maybe rfl rfl rfl (fun hg => y_lss rfl (if_pos hg) rfl) ?_
  refine al_y rfl rfl (y_or rfl rfl rfl rfl) ?_
  refine al_y rfl rfl (y_moveV rfl rfl) ?_
  refine al_maybe rfl rfl rfl (fun hg => y_moveV rfl rfl) ?_
  refine al_maybe rfl rfl rfl (fun hg => y_gtr rfl (if_pos hg) rfl) ?_
  refine al_y rfl rfl (y_or rfl rfl rfl rfl) ?_
  refine al_nil ?_
  refine qt_normal ?_
  refine ac_cond rfl (fun h0 => ?_) (fun h0 => ?_)
  · skip
    exfalso; simp [hpo] at h0; have hin : inB (p : Int) 0 (m.wide * m.rows - 1) = true := inB_iff.2 (by omega)
    simp [hin] at h0; omega
  · skip
    refine ac_skip ?_
    refine qt_normal ?_
    refine ac_seq ?_
    refine ac_region ?_
    refine al_y rfl rfl (y_loadN rfl rfl ty24 (by exact Nat.le_of_ble_eq_true rfl)) ?_
    refine al_y rfl rfl (y_callF (av := [_]) rfl ⟨rfl, trivial⟩ (f50_ok m hm hc)) ?_
    refine al_y rfl rfl (y_moveP rfl rfl) ?_
    refine al_y rfl rfl (y_extract rfl rfl rfl) ?_
    refine al_y rfl rfl (y_extract rfl rfl rfl) ?_
    refine al_y rfl rfl (y_assignP rfl rfl) ?_
    refine al_y rfl rfl (y_assignV rfl rfl) ?_
    refine al_nil ?_
    refine qt_normal ?_
    refine ac_seq ?_
    refine ac_seq ?_
    refine ac_region ?_
    refine al_y rfl rfl (y_moveV rfl rfl) ?_
    refine al_y rfl rfl (y_neq rfl rfl rfl) ?_
    refine al_y rfl rfl (y_moveV rfl rfl) ?_
    refine al_maybe rfl rfl rfl (fun hg => y_moveP rfl rfl) ?_
    refine al_maybe rfl rfl rfl (fun hg => y_len rfl rfl (rfl) Tryz.underlying79) ?_
    refine al_maybe rfl rfl rfl (fun hg => y_fieldAddr rfl rfl fld24_0) ?_
    refine al_maybe rfl rfl rfl (fun hg => y_load1 rfl (rfl) rfl ty3) ?_
    refine al_maybe rfl rfl rfl (fun hg => y_fieldAddr rfl rfl fld24_1) ?_
    refine al_maybe rfl rfl rfl (fun hg => y_load1 rfl (rfl) rfl ty3) ?_
    refine al_maybe rfl rfl rfl (fun hg => y_mul rfl (rfl) (rfl) ⟨(by first | omega | (simp at hg; omega)), (by first | omega | (simp at hg; omega))⟩) ?_
    refine al_maybe rfl rfl rfl (fun hg => y_neq rfl (rfl) (rfl)) ?_
    refine al_y rfl rfl (y_or rfl rfl rfl rfl) ?_
    refine al_nil ?_
    refine qt_normal ?_
    refine ac_cond rfl (fun h1 => ?_) (fun h1 => ?_)
    · skip
      exfalso; simp [bds_len] at h1; omega
    · skip
      refine ac_skip ?_
      refine qt_normal ?_
      refine ac_seq ?_
      refine ac_weak weak_hole ?_
      refine ac_weak weak_hole ?_
      refine ac_weak weak_hole ?_
      refine ac_mix (fun _ => True) (fun k => match k with | 0 => .stable | 1 => .stable | 2 => .stable | 3 => .stable | 4 => .stable | 5 => .stable | 6 => .stable | 7 => .stable | 8 => .stable | 9 => .own 0 | 10 => .own 1 | 11 => .own 2 | 12 => .writes | 13 => .writes | 14 => .writes | _ => .here) mixed (by kernel_rfl) rfl (by kernel_rfl) trivial ?_
      refine am_s rfl rfl (fun m hm => y_fieldAddr rfl rfl fld24_0) ?_
      refine am_s rfl rfl (fun m hm => y_load1 rfl rfl rfl ty3) ?_
      refine am_s rfl rfl (fun m hm => y_build (cs := [_, _]) rfl st29 rfl ⟨_, _, rfl, (cE_v rfl), rfl⟩ (by rfl) (by simp [ofV])) ?_
      refine am_s rfl rfl (fun m hm => y_fieldAddr rfl rfl fld24_0) ?_
      refine am_s rfl rfl (fun m hm => y_load1 rfl rfl rfl ty3) ?_
      refine am_s rfl rfl (fun m hm => y_build (cs := [_, _]) rfl st29 rfl ⟨_, _, rfl, (cE_v rfl), rfl⟩ (by rfl) (by simp [ofV])) ?_
      refine am_s rfl rfl (fun m hm => y_fieldAddr rfl rfl fld24_0) ?_
      refine am_s rfl rfl (fun m hm => y_load1 rfl rfl rfl ty3) ?_
      refine am_s rfl rfl (fun m hm => y_build (cs := [_, _]) rfl st29 rfl ⟨_, _, rfl, (cE_v rfl), rfl⟩ (by rfl) (by simp [ofV])) ?_
      refine am_o rfl rfl (opB_alloc rfl zv29 rfl rfl rfl) ?_
      refine am_o rfl rfl (opB_alloc rfl zv29 rfl rfl rfl) ?_
      refine am_o rfl rfl (opB_alloc rfl zv29 rfl rfl rfl) ?_
      refine am_w rfl rfl (opB_store rfl rfl rfl rfl rfl rfl (cE_agg rfl) ty29 (by rfl) (by rfl)) trivial ?_
      refine am_w rfl rfl (opB_store rfl rfl rfl rfl rfl rfl (cE_agg rfl) ty29 (by rfl) (by rfl)) trivial ?_
      refine am_w rfl rfl (opB_store rfl rfl rfl rfl rfl rfl (cE_agg rfl) ty29 (by rfl) (by rfl)) trivial ?_
      refine am_nil ?_
      refine qt_normal ?_
      refine ac_seq ?_
      refine ac_region ?_
      refine al_y rfl rfl (y_moveP rfl rfl) ?_
      refine al_y rfl rfl (y_moveV rfl rfl) ?_
      refine al_y rfl rfl (y_indexAddr rfl rfl rfl slc79 (by omega) (span_at hpl) span_len) ?_
      refine al_y rfl rfl (y_loadN rfl rfl ty76 (by exact Nat.le_of_ble_eq_true rfl)) ?_
      refine al_pair  rfl rfl rfl rfl rfl rfl rfl zv76 ty76 rfl (by rfl) (cE_agg rfl) rfl ?_
      refine al_nil ?_
      refine qt_normal ?_
      refine ac_seq ?_
      refine ac_seq ?_
      refine ac_region ?_
      refine al_y rfl rfl (y_fieldAddr rfl rfl fld76_0) ?_
      refine al_y rfl rfl (y_load1 rfl rfl rfl ty3) ?_
      refine al_y rfl rfl (y_lss rfl rfl rfl) ?_
      refine al_y rfl rfl (y_moveV rfl rfl) ?_
      refine al_maybe rfl rfl rfl (fun hg => y_fieldAddr rfl rfl fld76_0) ?_
      refine al_maybe rfl rfl rfl (fun hg => y_load1 rfl (if_pos hg) rfl ty3) ?_
      refine al_maybe rfl rfl rfl (fun hg => y_fieldAddr rfl rfl fld76_1) ?_
      refine al_maybe rfl rfl rfl (fun hg => y_load1 rfl (if_pos hg) rfl ty3) ?_
      refine al_maybe rfl rfl rfl (fun hg => y_gtr rfl (if_pos hg) (if_pos hg)) ?_
      refine al_y rfl rfl (y_or rfl rfl rfl rfl) ?_
      refine al_y rfl rfl (y_moveV rfl rfl) ?_
      refine al_maybe rfl rfl rfl (fun hg => y_fieldAddr rfl rfl fld76_1) ?_
      refine al_maybe rfl rfl rfl (fun hg => y_load1 rfl (if_pos hg) rfl ty3) ?_
      refine al_maybe rfl rfl rfl (fun hg => y_gtr rfl (if_pos hg) rfl) ?_
      refine al_y rfl rfl (y_or rfl rfl rfl rfl) ?_
      refine al_nil ?_
      refine qt_normal ?_
      refine ac_cond rfl (fun h2 => ?_) (fun h2 => ?_)
      · skip
        exfalso; simp [e1, e2] at h2; omega
      · skip
        refine ac_skip ?_
        refine qt_normal ?_
        refine ac_seq ?_
        refine ac_region ?_
        refine al_y rfl rfl (y_fieldAddr rfl rfl fld76_0) ?_
        refine al_y rfl rfl (y_load1 rfl rfl rfl ty3) ?_
        refine al_y rfl rfl (y_fieldAddr rfl rfl fld76_1) ?_
        refine al_y rfl rfl (y_load1 rfl rfl rfl ty3) ?_
        refine al_y rfl rfl (y_fieldAddr rfl rfl fld76_0) ?_
        refine al_y rfl rfl (y_load1 rfl rfl rfl ty3) ?_
        refine al_y rfl rfl (y_sub rfl rfl rfl ⟨(by omega), (by omega)⟩) ?_
        refine al_y rfl rfl (y_moveV rfl rfl) ?_
        refine al_y rfl rfl (y_mul rfl rfl rfl ⟨(by omega), (by omega)⟩) ?_
        refine al_y rfl rfl (y_quo rfl rfl rfl ⟨(by omega), (by omega), (by omega)⟩) ?_
        refine al_y rfl rfl (y_add rfl rfl rfl ⟨(by omega), (by omega)⟩) ?_
        refine al_y rfl rfl (y_assignV rfl rfl) ?_
        refine al_nil ?_
        refine qt_normal ?_
        refine ac_seq ?_
        refine ac_seq ?_
        refine ac_region ?_
        refine al_y rfl rfl (y_assignV rfl rfl) ?_
        refine al_nil ?_
        refine qt_normal ?_
        refine ac_block ?_
        refine ac_weak (weak_nilc (k := 0) (i := 0) (j := 1) rfl rfl rfl) ?_
        refine ac_weak (weak_nilc (k := 1) (i := 0) (j := 1) rfl rfl rfl) ?_
        refine ac_weak (weak_nilc (k := 2) (i := 0) (j := 1) rfl rfl rfl) ?_
        refine ac_loop (ι := { k : Nat // k ≤ npt m }) (fun k => ⟨Tryz.f15.ntmps, frL [(1, I (p : Int)), (2, I c), (3, .pub (.ptr (eMp m))), (7, .pub (eSpans (bds m))), (9, .pp 0 1 0 0), (10, .pp 1 1 0 0), (11, .pp 2 1 0 0), (13, I n), (14, I (k.1 : Int))], [.row [[I m.wide, .psl 3 k.1]], .row [[I m.wide, .psl 4 k.1]], .row [[I m.wide, .psl 5 k.1]], .row ((List.range k.1).map (fun i => [I (loG m i)])), .row ((List.range k.1).map (fun i => [I (hiG m i)])), .row ((List.range k.1).map (fun i => [I (zG m p n i)]))]⟩) (fun k => npt m - k.1) (⟨0, by omega⟩) ?_ ?_
        · exact weak_frM _ ⟨rfl, rfl, rfl, rfl, rfl, rfl, rfl, (congrArg I (by rw [hn, e1, e2])), rfl, trivial⟩ (rfl)
        · rintro ⟨k, hk⟩
          dsimp only
          refine ac_seq ?_
          refine ac_seq ?_
          refine ac_region ?_
          refine al_y rfl rfl (y_moveV rfl rfl) ?_
          refine al_y rfl rfl (y_moveP rfl rfl) ?_
          refine al_y rfl rfl (y_len rfl rfl rfl Tryz.underlying79) ?_
          refine al_y rfl rfl (y_lss rfl rfl rfl) ?_
          refine al_nil ?_
          refine qt_normal ?_
          refine ac_cond rfl (fun h3 => ?_) (fun h3 => ?_)
          · skip
            have hlt : k < (bds m).length := by simpa using h3
            have hkn2 : k < npt m := by rw [bds_len] at hlt; exact hlt
            have hbk := bds_bd hm hlt
            have hd := dist_bd (w := m.wide) (a := (p : Int)) (b := (k : Int)) (N := 30) (by omega) (by omega) (by omega)
            have hsd := sd_bd m5 m6 hd.1 (by omega)
            have f1 : (bds m)[k].1 = loG m k := by rw [bds_at hlt]; rfl
            have f2 : (bds m)[k].2 = hiG m k := by rw [bds_at hlt]; rfl
            refine ac_skip ?_
            refine qt_normal ?_
            refine ac_seq ?_
            refine ac_block ?_
            refine ac_seq ?_
            refine ac_mix (fun _ => True) (fun k => match k with | 0 => .rd [0] | 1 => .rd [0] | 2 => .stable | 3 => .stable | 4 => .stable | 5 => .stable | 6 => .stable | 7 => .stable | 8 => .rw [] 3 | 9 => .rd [1] | 10 => .rd [1] | 11 => .stable | 12 => .stable | 13 => .stable | 14 => .stable | 15 => .stable | 16 => .stable | 17 => .rw [] 4 | 18 => .rd [0] | 19 => .rw [3] 0 | 20 => .rd [1] | 21 => .rw [4] 1 | _ => .here) mixed (by kernel_rfl) rfl (by kernel_rfl) trivial ?_
            refine am_r [0] rfl rfl (fun m hm _ => y_fieldAddr_pp rfl rfl (hm.one 0 rfl) rfl fld29_1) ?_
            refine am_r [0] rfl rfl (fun m hm _ => y_load_pp1 rfl rfl (hm.one 0 rfl) rfl rfl rfl ty27) ?_
            refine am_s rfl rfl (fun m hm => y_moveP rfl rfl) ?_
            refine am_s rfl rfl (fun m hm => y_moveV rfl rfl) ?_
            refine am_s rfl rfl (fun m hm => y_indexAddr rfl rfl rfl slc79 (by omega) (span_at hlt) span_len) ?_
            refine am_s rfl rfl (fun m hm => y_fieldAddr rfl rfl fld76_0) ?_
            refine am_s rfl rfl (fun m hm => y_load1 rfl rfl rfl ty3) ?_
            refine am_s rfl rfl (fun m hm => y_buildSlice (size := 1) (rows := [[_]]) rfl Tryz.underlying27 ti3 rfl (by decide) rfl (by decide) ⟨_, _, rfl, (cE_v rfl), rfl⟩ (by rfl) (by simp [ofV]) rfl (by simp)) ?_
            refine am_x [] 3 rfl rfl (fun _ => trivial) (fun m hm => opB_append rfl rfl ((hm.one 3 rfl).trans rfl) (by simp) rfl el27 (fun r hr => by simp at hr; obtain ⟨q, _, rfl⟩ := hr; rfl) (fun r hr => by simp at hr; subst hr; rfl) (by simp; omega) (by unfold maxLen; simp; omega)) ?_
            refine am_r [1] rfl rfl (fun m hm _ => y_fieldAddr_pp rfl rfl (hm.one 1 rfl) rfl fld29_1) ?_
            refine am_r [1] rfl rfl (fun m hm _ => y_load_pp1 rfl rfl (hm.one 1 rfl) rfl rfl rfl ty27) ?_
            refine am_s rfl rfl (fun m hm => y_moveP rfl rfl) ?_
            refine am_s rfl rfl (fun m hm => y_moveV rfl rfl) ?_
            refine am_s rfl rfl (fun m hm => y_indexAddr rfl rfl rfl slc79 (by omega) (span_at hlt) span_len) ?_
            refine am_s rfl rfl (fun m hm => y_fieldAddr rfl rfl fld76_1) ?_
            refine am_s rfl rfl (fun m hm => y_load1 rfl rfl rfl ty3) ?_
            refine am_s rfl rfl (fun m hm => y_buildSlice (size := 1) (rows := [[_]]) rfl Tryz.underlying27 ti3 rfl (by decide) rfl (by decide) ⟨_, _, rfl, (cE_v rfl), rfl⟩ (by rfl) (by simp [ofV]) rfl (by simp)) ?_
            refine am_x [] 4 rfl rfl (fun _ => trivial) (fun m hm => opB_append rfl rfl ((hm.one 4 rfl).trans rfl) (by simp) rfl el27 (fun r hr => by simp at hr; obtain ⟨q, _, rfl⟩ := hr; rfl) (fun r hr => by simp at hr; subst hr; rfl) (by simp; omega) (by unfold maxLen; simp; omega)) ?_
            refine am_r [0] rfl rfl (fun m hm _ => y_fieldAddr_pp rfl rfl (hm.one 0 rfl) rfl fld29_1) ?_
            refine am_x [3] 0 rfl rfl (fun _ => trivial) (fun m hm => opB_store rfl rfl rfl (hm.one 0 rfl) rfl rfl (cE_psl rfl (hm.one 3 rfl) (by simp)) ty27 (by rfl) (by rfl)) ?_
            refine am_r [1] rfl rfl (fun m hm _ => y_fieldAddr_pp rfl rfl (hm.one 1 rfl) rfl fld29_1) ?_
            refine am_x [4] 1 rfl rfl (fun _ => trivial) (fun m hm => opB_store rfl rfl rfl (hm.one 1 rfl) rfl rfl (cE_psl rfl (hm.one 4 rfl) (by simp)) ty27 (by rfl) (by rfl)) ?_
            refine am_nil ?_
            refine qt_normal ?_
            refine ac_mix (fun _ => True) (fun k => match k with | 0 => .rd [2] | 1 => .rd [2] | 2 => .stable | 3 => .stable | 4 => .stable | 5 => .stable | 6 => .stable | 7 => .stable | 8 => .stable | 9 => .stable | 10 => .stable | 11 => .stable | 12 => .stable | 13 => .stable | 15 => .stable | 16 => .stable | 17 => .stable | 19 => .rw [] 5 | 20 => .rd [2] | 21 => .rw [5] 2 | _ => .here) mixed (by kernel_rfl) rfl (by kernel_rfl) trivial ?_
            refine am_r [2] rfl rfl (fun m hm _ => y_fieldAddr_pp rfl rfl (hm.one 2 rfl) rfl fld29_1) ?_
            refine am_r [2] rfl rfl (fun m hm _ => y_load_pp1 rfl rfl (hm.one 2 rfl) rfl rfl rfl ty27) ?_
            refine am_s rfl rfl (fun m hm => y_moveP rfl rfl) ?_
            refine am_s rfl rfl (fun m hm => y_moveV rfl rfl) ?_
            refine am_s rfl rfl (fun m hm => y_indexAddr rfl rfl rfl slc79 (by omega) (span_at hlt) span_len) ?_
            refine am_s rfl rfl (fun m hm => y_fieldAddr rfl rfl fld76_1) ?_
            refine am_s rfl rfl (fun m hm => y_load1 rfl rfl rfl ty3) ?_
            refine am_s rfl rfl (fun m hm => y_moveV rfl rfl) ?_
            refine am_s rfl rfl (fun m hm => y_fieldAddr rfl rfl fld24_2) ?_
            refine am_s rfl rfl (fun m hm => y_load1 rfl rfl rfl ty3) ?_
            refine am_s rfl rfl (fun m hm => y_fieldAddr rfl rfl fld24_0) ?_
            refine am_s rfl rfl (fun m hm => y_load1 rfl rfl rfl ty3) ?_
            refine am_s rfl rfl (fun m hm => y_moveV rfl rfl) ?_
            refine am_s rfl rfl (fun m hm => y_moveV rfl rfl) ?_
            refine am_h rfl rfl (y_callF (av := [_, _, _]) rfl ⟨rfl, rfl, rfl, trivial⟩ (f55 m.wide (p : Int) (k : Int) (by omega) (by omega) (by omega))) ?_
            refine am_s rfl rfl (fun m hm => y_mul rfl rfl rfl ⟨(by omega), (by omega)⟩) ?_
            refine am_s rfl rfl (fun m hm => y_add rfl rfl rfl ⟨(by omega), (by omega)⟩) ?_
            refine am_s rfl rfl (fun m hm => y_min rfl rfl rfl) ?_
            refine am_h rfl rfl (y_buildSlice (size := 1) (rows := [[_]]) rfl Tryz.underlying27 ti3 rfl (by decide) rfl (by decide) ⟨_, _, rfl, (cE_v rfl), rfl⟩ (by rfl) (by simp [ofV]) rfl (by simp)) ?_
            refine am_x [] 5 rfl rfl (fun _ => trivial) (fun m hm => opB_append rfl rfl ((hm.one 5 rfl).trans rfl) (by simp) rfl el27 (fun r hr => by simp at hr; obtain ⟨q, _, rfl⟩ := hr; rfl) (fun r hr => by simp at hr; subst hr; rfl) (by simp; omega) (by unfold maxLen; simp; omega)) ?_
            refine am_r [2] rfl rfl (fun m hm _ => y_fieldAddr_pp rfl rfl (hm.one 2 rfl) rfl fld29_1) ?_
            refine am_x [5] 2 rfl rfl (fun _ => trivial) (fun m hm => opB_store rfl rfl rfl (hm.one 2 rfl) rfl rfl (cE_psl rfl (hm.one 5 rfl) (by simp)) ty27 (by rfl) (by rfl)) ?_
            refine am_nil ?_
            refine qb_normal ?_
            refine qt_normal ?_
            refine ac_region ?_
            refine al_y rfl rfl (y_moveV rfl rfl) ?_
            refine al_y rfl rfl (y_add rfl rfl rfl ⟨(by omega), (by omega)⟩) ?_
            refine al_y rfl rfl (y_assignV rfl rfl) ?_
            refine al_nil ?_
            exact ⟨⟨k + 1, by omega⟩, by dsimp only; omega, weak_frM _ ⟨rfl, rfl, rfl, rfl, rfl, rfl, rfl, rfl, rfl, trivial⟩ ((mem_eqG (M := []) rfl rfl rfl (by rw [f1]; exact rg_snoc k) (by rw [f2]; exact rg_snoc k) (by rw [f2]; exact rg_snoc k)))⟩
          · skip
            have hge : (bds m).length ≤ k := by simpa using h3
            have hk2 : k = npt m := by rw [bds_len] at hge; omega
            subst hk2
            refine ac_exit ?_
            refine qt_exit ?_
            refine qt_exit ?_
            refine qb_exit ?_
            refine qt_normal ?_
            refine ac_seq ?_
            refine ac_weak (weak_frM (mem' := [.row [[I m.wide, .psl 3 (npt m)]], .row [[I m.wide, .psl 4 (npt m)]], .row [[I m.wide, .psl 5 (npt m)]], .row ((List.range (npt m)).map (fun i => [I (loG m i)])), .row ((List.range (npt m)).map (fun i => [I (hiG m i)])), .row ((List.range (npt m)).map (fun i => [I (zG m p n i)]))]) [(1, I (p : Int)), (3, .pub (.ptr (eMp m))), (9, .pp 0 1 0 0), (10, .pp 1 1 0 0), (11, .pp 2 1 0 0), (13, I n)] ⟨rfl, rfl, rfl, rfl, rfl, rfl, trivial⟩ rfl) ?_
            refine ac_weak (weak_pubc (k := 3) (c := 0) (i := 0) (j := 1) (rows := (fnF m (loG m)).vals.map fun n => [AV.v (.int .i64 n)]) (by rw [← fn_rows]; rfl) (by rw [List.length_map, fnF_len]) rfl rfl rfl rfl) ?_
            refine ac_weak (weak_pubc (k := 4) (c := 1) (i := 0) (j := 1) (rows := (fnF m (hiG m)).vals.map fun n => [AV.v (.int .i64 n)]) (by rw [← fn_rows]; rfl) (by rw [List.length_map, fnF_len]) rfl rfl rfl rfl) ?_
            refine ac_weak (weak_pubc (k := 5) (c := 2) (i := 0) (j := 1) (rows := (fnF m (zG m p n)).vals.map fun n => [AV.v (.int .i64 n)]) (by rw [← fn_rows]; rfl) (by rw [List.length_map, fnF_len]) rfl rfl rfl rfl) ?_
            refine ac_region ?_
            refine al_y rfl rfl (y_loadN rfl rfl ty24 (by exact Nat.le_of_ble_eq_true rfl)) ?_
            refine al_y rfl rfl (y_load_ppA (cs := [_, _]) rfl rfl rfl rfl rfl (by exact Nat.le_of_ble_eq_true rfl) rfl ty29) ?_
            refine al_y rfl rfl (y_callF (av := [_, _]) rfl ⟨rfl, rfl, trivial⟩ (f54_true m (fnF m (loG m)) (by rw [fnF_len]; omega) hm (fnF_field hm fun i hi => loG_bd hm hi) (loG_fits hm hc))) ?_
            refine al_y rfl rfl (y_moveP rfl rfl) ?_
            refine al_y rfl rfl (y_extract rfl rfl rfl) ?_
            refine al_y rfl rfl (y_extract rfl rfl rfl) ?_
            refine al_y rfl rfl (y_assignV rfl rfl) ?_
            refine al_y rfl rfl (y_assignV rfl rfl) ?_
            refine al_nil ?_
            refine qt_normal ?_
            refine ac_seq ?_
            refine ac_region ?_
            refine al_y rfl rfl (y_loadN rfl rfl ty24 (by exact Nat.le_of_ble_eq_true rfl)) ?_
            refine al_y rfl rfl (y_load_ppA (cs := [_, _]) rfl rfl rfl rfl rfl (by exact Nat.le_of_ble_eq_true rfl) rfl ty29) ?_
            refine al_y rfl rfl (y_callF (av := [_, _]) rfl ⟨rfl, rfl, trivial⟩ (f54_true m (fnF m (hiG m)) (by rw [fnF_len]; omega) hm (fnF_field hm fun i hi => hiG_bd hm hi) (hiG_fits hm hc))) ?_
            refine al_y rfl rfl (y_moveP rfl rfl) ?_
            refine al_y rfl rfl (y_extract rfl rfl rfl) ?_
            refine al_y rfl rfl (y_extract rfl rfl rfl) ?_
            refine al_y rfl rfl (y_assignV rfl rfl) ?_
            refine al_y rfl rfl (y_assignV rfl rfl) ?_
            refine al_nil ?_
            refine qt_normal ?_
            refine ac_seq ?_
            refine ac_region ?_
            refine al_y rfl rfl (y_loadN rfl rfl ty24 (by exact Nat.le_of_ble_eq_true rfl)) ?_
            refine al_y rfl rfl (y_load_ppA (cs := [_, _]) rfl rfl rfl rfl rfl (by exact Nat.le_of_ble_eq_true rfl) rfl ty29) ?_
            refine al_y rfl rfl (y_callF (av := [_, _]) rfl ⟨rfl, rfl, trivial⟩ (f54_true m (fnF m (zG m p n)) (by rw [fnF_len]; omega) hm (fnF_field hm fun i hi => zG_bd hm (by omega) hi) (zG_fits hm hc hn1))) ?_
            refine al_y rfl rfl (y_moveP rfl rfl) ?_
            refine al_y rfl rfl (y_extract rfl rfl rfl) ?_
            refine al_y rfl rfl (y_extract rfl rfl rfl) ?_
            refine al_y rfl rfl (y_assignV rfl rfl) ?_
            refine al_y rfl rfl (y_assignV rfl rfl) ?_
            refine al_nil ?_
            refine qt_normal ?_
            refine ac_seq ?_
            refine ac_region ?_
            refine al_y rfl rfl (y_moveV rfl rfl) ?_
            refine al_y rfl rfl (y_eql rfl rfl rfl) ?_
            refine al_y rfl rfl (y_moveV rfl rfl) ?_
            refine al_maybe rfl rfl rfl (fun hg => y_moveV rfl rfl) ?_
            refine al_maybe rfl rfl rfl (fun hg => y_eql rfl (rfl) rfl) ?_
            refine al_y rfl rfl (y_and rfl rfl rfl rfl) ?_
            refine al_y rfl rfl (y_moveV rfl rfl) ?_
            refine al_maybe rfl rfl rfl (fun hg => y_moveV rfl rfl) ?_
            refine al_maybe rfl rfl rfl (fun hg => y_eql rfl (rfl) rfl) ?_
            refine al_y rfl rfl (y_and rfl rfl rfl rfl) ?_
            refine al_y rfl rfl (y_moveV rfl rfl) ?_
            refine al_maybe rfl rfl rfl (fun hg => y_moveV rfl rfl) ?_
            refine al_y rfl rfl (y_and rfl rfl rfl rfl) ?_
            refine al_y rfl rfl (y_moveV rfl rfl) ?_
            refine al_maybe rfl rfl rfl (fun hg => y_moveV rfl rfl) ?_
            refine al_y rfl rfl (y_and rfl rfl rfl rfl) ?_
            refine al_y rfl rfl (y_moveV rfl rfl) ?_
            refine al_maybe rfl rfl rfl (fun hg => y_moveV rfl rfl) ?_
            refine al_y rfl rfl (y_and rfl rfl rfl rfl) ?_
            refine al_y rfl rfl (y_moveV rfl rfl) ?_
            refine al_maybe rfl rfl rfl (fun hg => y_fieldAddr_pp rfl rfl rfl rfl fld29_1) ?_
            refine al_maybe rfl rfl rfl (fun hg => y_load_pp1 rfl rfl rfl rfl rfl rfl ty27) ?_
            refine al_maybe rfl rfl rfl (fun hg => y_moveV rfl rfl) ?_
            refine al_maybe rfl rfl rfl (fun hg => y_indexAddr rfl rfl rfl slc27 (by omega) (fn_at hp) int_len) ?_
            refine al_maybe rfl rfl rfl (fun hg => y_load1 rfl (rfl) rfl ty3) ?_
            refine al_maybe rfl rfl rfl (fun hg => y_moveV rfl rfl) ?_
            refine al_maybe rfl rfl rfl (fun hg => y_eql rfl (rfl) (rfl)) ?_
            refine al_y rfl rfl (y_and rfl rfl rfl rfl) ?_
            refine al_y rfl rfl (y_moveV rfl rfl) ?_
            refine al_maybe rfl rfl rfl (fun hg => y_callF (av := []) rfl trivial hkn) ?_
            refine al_y rfl rfl (y_and rfl rfl rfl rfl) ?_
            refine al_y rfl rfl (y_assignV rfl rfl) ?_
            refine al_nil ?_
            refine qt_normal ?_
            refine ac_ret ?_
            exact ⟨.inr rfl, AVle.of (by simp [zG_at hn2])⟩

theorem f15 (hkn : KN G) (m : Mp) (p c : Int) : ACall Tryz.prog G 15 [.agg (eMp m), ei p, ei c] (.v (.bool true)) := by
  by_cases h : possB m = true ∧ 0 ≤ p ∧ p < m.wide * m.rows ∧ 0 ≤ c ∧ c ≤ 100
  · obtain ⟨h1, h2, h3, h4, h5⟩ := h
    obtain ⟨hm, hc⟩ := possB_iff h1
    obtain ⟨p, rfl⟩ := Int.eq_ofNat_of_zero_le h2
    have hN := npt_bd hm
    have hp : p < npt m := by omega
    have hlh : loG m p ≤ hiG m p := lo_hi hm hc (by omega)
    have hd : 0 ≤ hiG m p - loG m p := by omega
    have ha : 0 ≤ (hiG m p - loG m p) * c := Int.mul_nonneg hd h4
    have hb : (hiG m p - loG m p) * c ≤ (hiG m p - loG m p) * 100 := Int.mul_le_mul_of_nonneg_left h5 hd
    exact f15_main hkn m p c hm h1 hc hp h4 h5 _ rfl (by omega) (by omega)
  · exact f15_triv hkn m p c h
end Go.Av
end
