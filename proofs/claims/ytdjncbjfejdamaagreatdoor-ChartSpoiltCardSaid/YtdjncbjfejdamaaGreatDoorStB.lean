/- chart.read. -/
import Derived.Test.YtdjncbjfejdamaaGreatDoorStA
set_option linter.unusedVariables false
set_option linter.unusedSimpArgs false
section
namespace Go.Av
open Go.Proofs
set_option maxRecDepth 100000
set_option maxHeartbeats 1000000
set_option linter.unusedSimpArgs false
variable {G : Glob}

def linesOf (s : List UInt8) : List (List UInt8) := splitL 10 s
def headOf (s : List UInt8) : List (List UInt8) := splitL 32 ((linesOf s).headD [])
def wideOf (s : List UInt8) : Int := numV ((headOf s).getD 1 [])
def manyOf (s : List UInt8) : Int := numV ((headOf s).getD 2 [])
def rowsS (s : List UInt8) : List (List UInt8) := ((linesOf s).take (manyOf s + 1).toNat).drop 1
def rowV (wide : Int) (l : List UInt8) : List Int := if 0 < wide then (splitL 32 l).map numV else []
def rowOK (wide : Int) (l : List UInt8) : Bool := (!decide (0 < wide) || (splitL 32 l).all numOK) && (((rowV wide l).length : Int) == wide)
def headOK (s : List UInt8) : Bool := (((headOf s).length : Int) == 3) && ((headOf s).getD 0 [] == wChart)
def valsOf (s : List UInt8) : List (List Int) := (rowsS s).map (rowV (wideOf s))
def readOK (s : List UInt8) : Bool := headOK s && numOK ((headOf s).getD 1 []) && numOK ((headOf s).getD 2 []) && (((linesOf s).length : Int) == manyOf s + 3) && (rowsS s).all (rowOK (wideOf s)) && (textL (wideOf s) (valsOf s) == s)
def fldOfS (s : List UInt8) : Fld := ⟨wideOf s, (valsOf s).flatten⟩
def readP (s : List UInt8) : Option Fld := if readOK s then some (fldOfS s) else none
theorem splitL_len (c : UInt8) : ∀ (s : List UInt8), (splitL c s).length ≤ s.length + 1
  | [] => by simp [splitL]
  | x :: xs => by
    have := splitL_len c xs
    simp only [splitL]
    split
    · simp; omega
    · split
      · simp
      · rename_i h; rw [h] at this; simp at this ⊢; omega
theorem splitL_piece (c : UInt8) : ∀ (s : List UInt8), ∀ p ∈ splitL c s, p.length ≤ s.length
  | [], p, h => by simp [splitL] at h; subst h; simp
  | x :: xs, p, h => by
    have ih := splitL_piece c xs
    simp only [splitL] at h
    split at h
    · rcases List.mem_cons.1 h with rfl | h
      · simp
      · have := ih p h; simp; omega
    · split at h
      · simp at h; subst h; simp
      · rename_i q qs hq
        rcases List.mem_cons.1 h with rfl | h
        · have := ih q (by rw [hq]; simp); simp; omega
        · have := ih p (by rw [hq]; simp [h]); simp; omega
theorem str_getD {H : List (List UInt8)} {k : Nat} (h : k < H.length) : (H.map fun s => [eS s])[k]? = some [eS (H.getD k [])] := by
  rw [List.getElem?_map, List.getElem?_eq_getElem h, List.getD_eq_getElem?_getD, List.getElem?_eq_getElem h]; rfl
theorem num_some {w : List UInt8} {y : Int} (h : numP w = some y) : numOK w = true ∧ y = numV w := by
  unfold numP at h
  split at h
  · rename_i hh; injection h with h; exact ⟨hh, h.symm⟩
  · cases h
theorem num_none {w : List UInt8} (h : numP w = none) : numOK w = false := by
  unfold numP at h
  split at h
  · cases h
  · rename_i hh; simpa using hh
theorem numOK_bd {w : List UInt8} (h : numOK w = true) : 0 ≤ numV w ∧ numV w ≤ 99999 := by
  unfold numOK at h
  simp only [Bool.and_eq_true, decide_eq_true_eq, List.all_eq_true] at h
  exact numV_small h.1.1.2 h.1.2
theorem rowV_ok {wide : Int} {l : List UInt8} (h : rowOK wide l = true) : ∀ n ∈ rowV wide l, 0 ≤ n ∧ n ≤ 99999 := fun n hn => by
  unfold rowV at hn
  unfold rowOK at h
  split at hn
  · rename_i hw
    simp only [hw, decide_true, Bool.not_true, Bool.false_or, Bool.and_eq_true, List.all_eq_true] at h
    obtain ⟨w, hw2, rfl⟩ := List.mem_map.1 hn
    exact numOK_bd (h.1 w hw2)
  · cases hn
theorem rowV_len {wide : Int} {l : List UInt8} : (rowV wide l).length ≤ l.length + 1 := by
  unfold rowV
  split
  · rw [List.length_map]; exact splitL_len 32 l
  · simp
theorem readP_no {s : List UInt8} (h : readOK s = false) : readP s = none := by unfold readP; rw [h]; rfl
def flatK (wide : Int) (R : List (List UInt8)) (k : Nat) : List Int := ((R.take k).map (rowV wide)).flatten
theorem flat_snoc {wide : Int} {R : List (List UInt8)} {k : Nat} (h : k < R.length) : flatK wide R (k + 1) = flatK wide R k ++ rowV wide R[k] := by
  unfold flatK
  rw [List.take_add_one, List.getElem?_eq_getElem h, Option.toList_some, List.map_append, List.flatten_append]; simp
theorem flat_len {wide : Int} {R : List (List UInt8)} {B : Nat} (hR : ∀ l ∈ R, l.length ≤ B) : ∀ (i : Nat), i ≤ R.length → (flatK wide R i).length ≤ i * (B + 1)
  | 0, _ => by simp [flatK]
  | k + 1, h => by
    have h1 := flat_len (wide := wide) hR k (by omega)
    rw [flat_snoc (show k < R.length by omega), List.length_append, Nat.add_mul]
    have h2 := rowV_len (wide := wide) (l := R[k])
    have h3 := hR _ (List.getElem_mem (show k < R.length by omega))
    omega
def iE (n : Int) : List EV := [EV.pub (.v (.int .i64 n))]
def rE (wide : Int) (l : List UInt8) : List EV := [EV.pub (eInts (rowV wide l))]
def rowsE (y1 : Int) (k n : Nat) (F : List Int) (V : List (List EV)) : List PO := [.row [[I 0, .pub (.v (.slice none 0 0))]], .row [[I y1, .psl 2 n]], .row (F.map iE), .row V]
theorem memR_eq {y1 : Int} {n n' : Nat} {F F' V V' : List (List EV)} (t : List PO) (h1 : n = n') (h2 : F = F') (h3 : V = V') :
    PO.row [[I 0, .pub (.v (.slice none 0 0))]] :: PO.row [[I y1, .psl 2 n]] :: PO.row F :: PO.row V :: t = PO.row [[I 0, .pub (.v (.slice none 0 0))]] :: PO.row [[I y1, .psl 2 n']] :: PO.row F' :: PO.row V' :: t := by subst h1; subst h2; subst h3; rfl
theorem flat_len1 {y1 : Int} {R : List (List UInt8)} {k : Nat} (h : k < R.length) : (flatK y1 R k).length + (((rowV y1 R[k]).map fun n => [AV.v (.int .i64 n)]).map (·.map EV.pub)).length = (flatK y1 R (k + 1)).length := by
  rw [flat_snoc h]; simp
theorem okR1 {k : Nat} (x : AV) : PO.okL k (.row [[I 0, .pub x]]) := fun r hr e he => by
  simp only [List.mem_singleton] at hr; subst hr
  simp only [List.mem_cons, List.not_mem_nil, or_false] at he
  rcases he with rfl | rfl <;> simp [EV.lt]
theorem okR2 {k : Nat} (y : Int) (n : Nat) (h : 2 < k) : PO.okL k (.row [[I y, .psl 2 n]]) := fun r hr e he => by
  simp only [List.mem_singleton] at hr; subst hr
  simp only [List.mem_cons, List.not_mem_nil, or_false] at he
  rcases he with rfl | rfl
  · simp [EV.lt]
  · exact h
theorem flatE_snoc {y1 : Int} {R : List (List UInt8)} {k : Nat} (h : k < R.length) : (flatK y1 R k).map iE ++ ((rowV y1 R[k]).map fun n => [AV.v (.int .i64 n)]).map (·.map .pub) = (flatK y1 R (k + 1)).map iE := by
  rw [flat_snoc h, List.map_append]; congr 1; rw [List.map_map]; rfl
theorem rE_snoc {y1 : Int} {R : List (List UInt8)} {k : Nat} (h : k < R.length) : (R.take k).map (rE y1) ++ [[EV.pub (eInts (rowV y1 R[k]))]] = (R.take (k + 1)).map (rE y1) := by
  rw [List.take_add_one, List.getElem?_eq_getElem h, Option.toList_some, List.map_append]; rfl

/-- chart.read -/
theorem f108 (s : List UInt8) (hl : s.length ≤ 400) : XCall Tryz.prog GT 108 [eS s] (optO pvNone (fun f => .agg (eFld f)) (readP s)) := by
  obtain ⟨L0, Ls, hL⟩ : ∃ L0 Ls, splitL 10 s = L0 :: Ls := by
    cases h : splitL 10 s with
    | nil => exact absurd h (splitL_ne 10 s)
    | cons a b => exact ⟨a, b, rfl⟩
  obtain ⟨H, hH⟩ : ∃ H, splitL 32 L0 = H := ⟨_, rfl⟩
  have hlen := splitL_len 10 s
  have hpc := splitL_piece 10 s
  rw [hL] at hlen hpc
  have hl0 := hpc L0 (List.mem_cons_self ..)
  have sp1 := f142 s 10 (by omega)
  rw [hL] at sp1
  have sp2 := f142 L0 32 (by omega)
  rw [hH] at sp2
  have hHl := splitL_len 32 L0
  have hHp := splitL_piece 32 L0
  rw [hH] at hHl hHp
  have eH : headOf s = H := by unfold headOf linesOf; rw [hL]; exact hH
  have eL : linesOf s = L0 :: Ls := hL
  have hHd : ∀ k, (H.getD k []).length ≤ 400 := fun k => by
    rw [List.getD_eq_getElem?_getD]
    cases h : H[k]? with
    | none => simp
    | some p => have := hHp p (List.mem_of_getElem? h); simp only [Option.getD_some]; omega
  refine xcall_of Tryz.func108 rfl (by kernel_rfl) rfl ?_
  refine ac_seq ?_
  refine ac_region ?_
  refine al_m rfl (m_alloc rfl rfl zv29 rfl rfl) ?_
  refine al_nil ?_
  refine qt_normal ?_
  refine ac_seq ?_
  refine ac_region ?_
  refine al_y rfl rfl (y_moveV rfl rfl) ?_
  refine al_y rfl rfl (y_callF (av := [_, _]) rfl ⟨rfl, rfl, trivial⟩ sp1) ?_
  refine al_y rfl rfl (y_assignP rfl rfl) ?_
  refine al_nil ?_
  refine qt_normal ?_
  refine ac_seq ?_
  refine ac_region ?_
  refine al_y rfl rfl (y_moveP rfl rfl) ?_
  refine al_y rfl rfl (y_indexAddr rfl rfl rfl slc156 (by omega) rfl str_len) ?_
  refine al_y rfl rfl (y_load1 rfl rfl rfl ty9) ?_
  refine al_y rfl rfl (y_callF (av := [_, _]) rfl ⟨rfl, rfl, trivial⟩ sp2) ?_
  refine al_y rfl rfl (y_assignP rfl rfl) ?_
  refine al_nil ?_
  refine qt_normal ?_
  refine ac_seq ?_
  cases hx0 : sureO (((H.length : Int) == 3) && (H.getD 0 [] == wChart))
  case none =>
    refine ac_drawP pvNone mixed (by kernel_rfl) rfl (fun fr u => ?_) ?_
    · skip
      have hnone : readP s = none := by
        have h := sure_none hx0
        refine readP_no ?_
        unfold readOK headOK
        rw [eH, h]; simp
      refine qt_panic ?_
      exact xend_pan hnone (AVle.refl _)
    refine ap_y rfl (y_moveP rfl rfl) ?_
    refine ap_y rfl (y_len_map rfl rfl Tryz.underlying156) ?_
    refine ap_y rfl (y_eql rfl rfl rfl) ?_
    refine ap_y rfl (y_moveV rfl rfl) ?_
    refine ap_maybe rfl (fun hg => y_moveP rfl rfl) ?_
    refine ap_maybe rfl (fun hg => y_indexAddr rfl (if_pos hg) rfl slc156 (by omega) (show _ = some [eS (H.getD 0 [])] from str_getD (by simp at hg; omega)) str_len) ?_
    refine ap_maybe rfl (fun hg => y_load1 rfl (if_pos hg) rfl ty9) ?_
    refine ap_maybe rfl (fun hg => y_eqlS rfl (if_pos hg) rfl) ?_
    refine ap_y rfl (y_and rfl rfl rfl rfl) ?_
    refine ap_y rfl (y_moveP rfl rfl) ?_
    refine ap_y rfl (y_indexAddr rfl rfl rfl slc156 (by omega) rfl str_len) ?_
    refine ap_y rfl (y_load1 rfl rfl rfl ty9) ?_
    exact ap_end (av := [_, _]) rfl rfl rfl ⟨rfl, rfl, trivial⟩ (XCall.none (f143 _ _) hx0)
  case some y0 =>
    refine ac_draw mixed (by kernel_rfl) rfl ?_
    refine aq_y rfl (y_moveP rfl rfl) ?_
    refine aq_y rfl (y_len_map rfl rfl Tryz.underlying156) ?_
    refine aq_y rfl (y_eql rfl rfl rfl) ?_
    refine aq_y rfl (y_moveV rfl rfl) ?_
    refine aq_maybe rfl (fun hg => y_moveP rfl rfl) ?_
    refine aq_maybe rfl (fun hg => y_indexAddr rfl (if_pos hg) rfl slc156 (by omega) (show _ = some [eS (H.getD 0 [])] from str_getD (by simp at hg; omega)) str_len) ?_
    refine aq_maybe rfl (fun hg => y_load1 rfl (if_pos hg) rfl ty9) ?_
    refine aq_maybe rfl (fun hg => y_eqlS rfl (if_pos hg) rfl) ?_
    refine aq_y rfl (y_and rfl rfl rfl rfl) ?_
    refine aq_y rfl (y_moveP rfl rfl) ?_
    refine aq_y rfl (y_indexAddr rfl rfl rfl slc156 (by omega) rfl str_len) ?_
    refine aq_y rfl (y_load1 rfl rfl rfl ty9) ?_
    refine aq_y rfl (y_callF (av := [_, _]) rfl ⟨rfl, rfl, trivial⟩ (XCall.some (f143 _ _) hx0)) ?_
    refine aq_nil ?_
    have hs1 := sure_some hx0
    simp only [Bool.and_eq_true, beq_iff_eq] at hs1
    have hk1 : headOK s = true := by unfold headOK; rw [eH, hs1.1, hs1.2]; simp
    refine qt_normal ?_
    refine ac_seq ?_
    refine ac_region ?_
    refine al_y rfl rfl (y_moveP rfl rfl) ?_
    refine al_y rfl rfl (y_indexAddr rfl rfl rfl slc156 (by omega) (show _ = some [eS (H.getD 1 [])] from str_getD (by omega)) str_len) ?_
    refine al_y rfl rfl (y_load1 rfl rfl rfl ty9) ?_
    refine al_xo (av := [_]) rfl rfl rfl ⟨rfl, trivial⟩ (f144 _ (by have := hHd 1; omega)) (fun hx1 u => ?_) (fun y1 hx1 => ?_)
    · skip
      have hnone : readP s = none := readP_no (by have h := num_none hx1; unfold readOK; rw [eH, h]; simp)
      refine qt_panic ?_
      exact xend_pan hnone (AVle.refl _)
    refine al_y rfl rfl (y_assignV rfl rfl) ?_
    refine al_nil ?_
    refine qt_normal ?_
    refine ac_seq ?_
    have hn1 := (num_some hx1).1
    have hy1 := (num_some hx1).2
    have hb1 := numOK_bd hn1
    refine ac_region ?_
    refine al_y rfl rfl (y_moveP rfl rfl) ?_
    refine al_y rfl rfl (y_indexAddr rfl rfl rfl slc156 (by omega) (show _ = some [eS (H.getD 2 [])] from str_getD (by omega)) str_len) ?_
    refine al_y rfl rfl (y_load1 rfl rfl rfl ty9) ?_
    refine al_xo (av := [_]) rfl rfl rfl ⟨rfl, trivial⟩ (f144 _ (by have := hHd 2; omega)) (fun hx2 u => ?_) (fun y2 hx2 => ?_)
    · skip
      have hnone : readP s = none := readP_no (by have h := num_none hx2; unfold readOK; rw [eH, h]; simp)
      refine qt_panic ?_
      exact xend_pan hnone (AVle.refl _)
    refine al_y rfl rfl (y_assignV rfl rfl) ?_
    refine al_nil ?_
    refine qt_normal ?_
    refine ac_seq ?_
    have hn2 := (num_some hx2).1
    have hy2 := (num_some hx2).2
    have hb2 := numOK_bd hn2
    rw [← hy1] at hb1
    rw [← hy2] at hb2
    replace hy1 : y1 = wideOf s := by unfold wideOf; rw [eH]; exact hy1
    replace hy2 : y2 = manyOf s := by unfold manyOf; rw [eH]; exact hy2
    refine ac_region ?_
    refine al_y rfl rfl (y_moveP rfl rfl) ?_
    refine al_y rfl rfl (y_len_map rfl rfl Tryz.underlying156) ?_
    refine al_y rfl rfl (y_moveV rfl rfl) ?_
    refine al_y rfl rfl (y_add rfl rfl rfl ⟨(by omega), (by omega)⟩) ?_
    refine al_y rfl rfl (y_eql rfl rfl rfl) ?_
    refine al_y rfl rfl (y_moveV rfl rfl) ?_
    refine al_xo (av := [_, _]) rfl rfl rfl ⟨rfl, rfl, trivial⟩ (f143 _ _) (fun hx3 u => ?_) (fun y3 hx3 => ?_)
    · skip
      have hnone : readP s = none := readP_no (by have h := sure_none hx3; unfold readOK; rw [eL, ← hy2, h]; simp)
      refine qt_panic ?_
      exact xend_pan hnone (AVle.refl _)
    refine al_nil ?_
    refine qt_normal ?_
    refine ac_seq ?_
    refine ac_region ?_
    refine al_y rfl rfl (y_moveV rfl rfl) ?_
    refine al_y rfl rfl (y_build (cs := [_, _]) rfl st29 rfl ⟨_, _, rfl, (cE_v rfl), rfl⟩ (by rfl) (by simp [ofV])) ?_
    refine al_m rfl (m_alloc rfl rfl zv29 rfl rfl) ?_
    refine al_m rfl (m_store rfl rfl rfl rfl rfl rfl (cE_agg rfl) ty29 (by rfl) (by exact Nat.le_of_ble_eq_true rfl)) ?_
    refine al_nil ?_
    refine qt_normal ?_
    refine ac_seq ?_
    refine ac_region ?_
    refine al_y rfl rfl (y_assignV rfl rfl) ?_
    refine al_nil ?_
    refine qt_normal ?_
    refine ac_seq ?_
    refine ac_seq ?_
    have hs3 := sure_some hx3
    simp only [beq_iff_eq] at hs3
    refine Exists.elim (show ∃ R, ((L0 :: Ls).take (y2 + 1).toNat).drop 1 = R from ⟨_, rfl⟩) (fun R hR => ?_)
    have hR2 : R = rowsS s := by unfold rowsS; rw [eL, ← hy2]; exact hR.symm
    have hRl : ∀ l ∈ R, l.length ≤ 400 := fun l hl => by have := hpc l (by rw [← hR] at hl; exact List.mem_of_mem_take (List.mem_of_mem_drop hl)); omega
    have hRn : R.length ≤ 401 := by rw [← hR]; simp; simp at hlen; omega
    refine ac_region ?_
    refine al_y rfl rfl (y_moveP rfl rfl) ?_
    refine al_y rfl rfl (y_moveV rfl rfl) ?_
    refine al_y rfl rfl (y_add rfl rfl rfl ⟨(by omega), (by omega)⟩) ?_
    refine al_y rfl rfl (y_slice rfl rfl rfl rfl slc156 str_len (by omega) (by omega) (by rw [List.length_map]; omega)) ?_
    refine al_y rfl rfl (y_len rfl rfl rfl Tryz.underlying156) ?_
    refine al_y rfl rfl (y_moveV rfl rfl) ?_
    refine al_nil ?_
    refine qt_normal ?_
    refine ac_block ?_
    refine ac_weak (weak_nilc (k := 1) (i := 0) (j := 1) rfl rfl rfl) ?_
    refine ac_weak (weak_nil 8 rfl) ?_
    refine ac_loop (ι := { k : Nat // k ≤ R.length ∧ ∀ i (hi : i < R.length), i < k → rowOK y1 R[i] = true }) (fun k => ⟨Tryz.f108.ntmps, frL [(0, SL s), (2, .pp 0 1 0 0), (5, I y1), (7, .pp 1 1 0 0), (8, .psl 3 k.1), (54, .pub (eStrs R)), (55, I (R.length : Int)), (56, I (k.1 : Int))], [.row [[I 0, .pub (.v (.slice none 0 0))]], .row [[I y1, .psl 2 (flatK y1 R k.1).length]], .row ((flatK y1 R k.1).map iE), .row ((R.take k.1).map (rE y1))]⟩) (fun k => R.length - k.1) (⟨0, by omega, fun i _ h => absurd h (by omega)⟩) ?_ ?_
    · exact weak_frM _ ⟨rfl, rfl, rfl, rfl, rfl, (by show EV.pub _ = _; rw [← hR]; simp [eStrs, List.map_take, List.map_drop]), (by show I _ = I _; rw [← hR]; simp), rfl, trivial⟩ (rfl)
    · rintro ⟨k, hk⟩
      dsimp only
      refine ac_seq ?_
      refine ac_region ?_
      refine al_y rfl rfl (y_lss rfl rfl rfl) ?_
      refine al_nil ?_
      refine qt_normal ?_
      refine ac_seq ?_
      refine ac_cond rfl (fun h0 => ?_) (fun h0 => ?_)
      · skip
        have hlt : k < R.length := by simpa using h0
        have hRk := hRl _ (List.getElem_mem hlt)
        have hfl := flat_len (wide := y1) hRl k (by omega)
        refine ac_skip ?_
        refine qt_normal ?_
        refine ac_seq ?_
        refine ac_block ?_
        refine ac_seq ?_
        refine ac_region ?_
        refine al_y rfl rfl (y_indexAddr rfl rfl rfl slc156 (by omega) (str_at hlt) str_len) ?_
        refine al_y rfl rfl (y_load1 rfl rfl rfl ty9) ?_
        refine al_y rfl rfl (y_assignV rfl rfl) ?_
        refine al_nil ?_
        refine qt_normal ?_
        refine ac_seq ?_
        refine ac_region ?_
        refine al_y rfl rfl (y_assignV rfl rfl) ?_
        refine al_nil ?_
        refine qt_normal ?_
        refine ac_seq ?_
        refine ac_seq ?_
        refine ac_region ?_
        refine al_y rfl rfl (y_moveV rfl rfl) ?_
        refine al_y rfl rfl (y_gtr rfl rfl rfl) ?_
        refine al_nil ?_
        refine qt_normal ?_
        refine ac_cond rfl (fun h1 => ?_) (fun h1 => ?_)
        · skip
          have hw0 : 0 < y1 := by simpa using h1
          refine Exists.elim (show ∃ W, splitL 32 R[k] = W from ⟨_, rfl⟩) (fun W hW => ?_)
          have sp3 := f142 R[k] 32 (by omega)
          rw [hW] at sp3
          have hWl := splitL_len 32 R[k]
          have hWp := splitL_piece 32 R[k]
          rw [hW] at hWl hWp
          have hrv : rowV y1 R[k] = W.map numV := by unfold rowV; rw [if_pos hw0, hW]
          refine ac_seq ?_
          refine ac_region ?_
          refine al_y rfl rfl (y_moveV rfl rfl) ?_
          refine al_y rfl rfl (y_callF (av := [_, _]) rfl ⟨rfl, rfl, trivial⟩ sp3) ?_
          refine al_y rfl rfl (y_len_map rfl rfl Tryz.underlying156) ?_
          refine al_y rfl rfl (y_moveV rfl rfl) ?_
          refine al_nil ?_
          refine qt_normal ?_
          refine ac_block ?_
          refine ac_weak (weak_nil 11 rfl) ?_
          refine ac_loop (ι := { j : Nat // j ≤ W.length ∧ ∀ i (hi : i < W.length), i < j → numOK W[i] = true }) (fun j => ⟨Tryz.f108.ntmps, frL [(0, SL s), (2, .pp 0 1 0 0), (5, I y1), (7, .pp 1 1 0 0), (8, .psl 3 k), (54, .pub (eStrs R)), (55, I (R.length : Int)), (56, I (k : Int)), (10, SL R[k]), (11, .psl 4 j.1), (63, .pub (eStrs W)), (64, I (W.length : Int)), (65, I (j.1 : Int))], [.row [[I 0, .pub (.v (.slice none 0 0))]], .row [[I y1, .psl 2 (flatK y1 R k).length]], .row ((flatK y1 R k).map iE), .row ((R.take k).map (rE y1)), .row ((W.take j.1).map fun w => iE (numV w))]⟩) (fun j => W.length - j.1) (⟨0, by omega, fun i _ h => absurd h (by omega)⟩) ?_ ?_
          · exact weak_frM _ ⟨rfl, rfl, rfl, rfl, rfl, rfl, rfl, rfl, rfl, rfl, rfl, rfl, rfl, trivial⟩ (rfl)
          · rintro ⟨j, hj⟩
            dsimp only
            refine ac_seq ?_
            refine ac_region ?_
            refine al_y rfl rfl (y_lss rfl rfl rfl) ?_
            refine al_nil ?_
            refine qt_normal ?_
            refine ac_seq ?_
            refine ac_cond rfl (fun h2 => ?_) (fun h2 => ?_)
            · skip
              have hjt : j < W.length := by simpa using h2
              refine ac_skip ?_
              refine qt_normal ?_
              refine ac_seq ?_
              refine ac_block ?_
              refine ac_seq ?_
              refine ac_region ?_
              refine al_y rfl rfl (y_indexAddr rfl rfl rfl slc156 (by omega) (str_at hjt) str_len) ?_
              refine al_y rfl rfl (y_load1 rfl rfl rfl ty9) ?_
              refine al_y rfl rfl (y_assignV rfl rfl) ?_
              refine al_nil ?_
              refine qt_normal ?_
              refine ac_seq ?_
              refine ac_region ?_
              refine al_y rfl rfl (y_moveV rfl rfl) ?_
              refine al_xo (av := [_]) rfl rfl rfl ⟨rfl, trivial⟩ (f144 _ (by have := hWp _ (List.getElem_mem hjt); omega)) (fun hx4 u => ?_) (fun y4 hx4 => ?_)
              · skip
                have hnone : readP s = none := readP_no (by
                  have h := num_none hx4
                  have hr : (rowsS s).all (rowOK (wideOf s)) = false := by
                    rw [← hy1, ← hR2, List.all_eq_false]
                    refine ⟨R[k], List.getElem_mem hlt, ?_⟩
                    unfold rowOK
                    rw [hW, show W.all numOK = false from by rw [List.all_eq_false]; exact ⟨W[j], List.getElem_mem hjt, by rw [h]; decide⟩]
                    simp [hw0]
                  unfold readOK; rw [hr]; simp)
                refine qt_panic ?_
                refine qb_panic ?_
                refine qt_panic ?_
                refine qt_panic ?_
                refine qb_panic ?_
                refine qt_panic ?_
                refine qb_panic ?_
                refine qt_panic ?_
                refine qt_panic ?_
                refine qb_panic ?_
                refine qt_panic ?_
                exact xend_pan hnone (AVle.refl _)
              refine al_y rfl rfl (y_assignV rfl rfl) ?_
              refine al_nil ?_
              refine qt_normal ?_
              have hn4 := (num_some hx4).1
              have hy4 := (num_some hx4).2
              refine ac_region ?_
              refine al_y rfl rfl (y_moveS rfl rfl) ?_
              refine al_y rfl rfl (y_moveV rfl rfl) ?_
              refine al_y rfl rfl (y_buildSlice (size := 1) (rows := [[_]]) rfl Tryz.underlying27 ti3 rfl (by decide) rfl (by decide) ⟨_, _, rfl, (cE_v rfl), rfl⟩ (by rfl) (by simp [ofV]) rfl (by simp)) ?_
              refine al_m rfl (m_append rfl rfl rfl rfl (by simp; omega) rfl el27 (by intro r hr; obtain ⟨n, _, rfl⟩ := List.mem_map.1 hr; rfl) (by simp) (by simp; omega) (by unfold maxLen; simp; omega)) ?_
              refine al_y rfl rfl (y_assignS rfl rfl) ?_
              refine al_nil ?_
              refine qb_normal ?_
              refine qt_normal ?_
              refine ac_region ?_
              refine al_y rfl rfl (y_add rfl rfl rfl ⟨(by omega), (by omega)⟩) ?_
              refine al_y rfl rfl (y_moveV rfl rfl) ?_
              refine al_nil ?_
              exact ⟨⟨j + 1, by omega, fun i hi h => (if e : i = j then by subst e; exact hn4 else hj.2 i hi (by omega))⟩, by dsimp only; omega, weak_frM _ ⟨rfl, rfl, rfl, rfl, rfl, rfl, rfl, rfl, rfl, rfl, rfl, rfl, rfl, trivial⟩ (congrArg (fun z => [.row [[I 0, .pub (.v (.slice none 0 0))]], .row [[I y1, .psl 2 (flatK y1 R k).length]], .row ((flatK y1 R k).map iE), .row ((R.take k).map (rE y1))] ++ [PO.row z]) (by rw [List.take_add_one, List.getElem?_eq_getElem hjt, Option.toList_some, List.map_append, hy4]; rfl))⟩
            · skip
              have hjge : W.length ≤ j := by simpa using h2
              have hj2 : j = W.length := by omega
              subst hj2
              have hall : (!decide (0 < y1) || (splitL 32 R[k]).all numOK) = true := by rw [hW, List.all_eq_true.2 (fun w hw => by obtain ⟨i, hi, rfl⟩ := List.getElem_of_mem hw; exact hj.2 i hi (by omega))]; simp
              refine ac_weak (weak_pub (k := 4) (m := W.length) (rows := (rowV y1 R[k]).map fun n => [AV.v (.int .i64 n)]) [11] (by rw [hrv]; simp [Function.comp_def, iE]) (by rw [hrv]; simp) (by intro d hd; simp at hd; subst hd; rfl)) ?_
              refine ac_exit ?_
              refine qt_exit ?_
              refine qt_exit ?_
              refine qb_exit ?_
              refine qt_normal ?_
              refine ac_seq ?_
              refine ac_region ?_
              refine al_y rfl rfl (y_moveP rfl rfl) ?_
              refine al_y rfl rfl (y_len_map rfl rfl Tryz.underlying27) ?_
              refine al_y rfl rfl (y_moveV rfl rfl) ?_
              refine al_y rfl rfl (y_eql rfl rfl rfl) ?_
              refine al_y rfl rfl (y_moveV rfl rfl) ?_
              refine al_xo (av := [_, _]) rfl rfl rfl ⟨rfl, rfl, trivial⟩ (f143 _ _) (fun hx5 u => ?_) (fun y5 hx5 => ?_)
              · skip
                have hnone : readP s = none := readP_no (by
                  have h := sure_none hx5
                  have hr : (rowsS s).all (rowOK (wideOf s)) = false := by
                    rw [← hy1, ← hR2, List.all_eq_false]
                    exact ⟨R[k], List.getElem_mem hlt, by unfold rowOK; rw [h]; simp⟩
                  unfold readOK; rw [hr]; simp)
                refine qt_panic ?_
                refine qb_panic ?_
                refine qt_panic ?_
                refine qt_panic ?_
                refine qb_panic ?_
                refine qt_panic ?_
                exact xend_pan hnone (AVle.refl _)
              refine al_nil ?_
              refine qt_normal ?_
              refine ac_seq ?_
              have hs81 : (((rowV y1 R[k]).length : Int) == y1) = true := by first | exact sure_some hx5 | exact sure_some hx6
              have hrk : rowOK y1 R[k] = true := by unfold rowOK; rw [hall, hs81]; rfl
              refine ac_region ?_
              refine al_y rfl rfl (y_moveS rfl rfl) ?_
              refine al_y rfl rfl (y_moveP rfl rfl) ?_
              refine al_y rfl rfl (y_buildSlice (size := 1) (rows := [[_]]) rfl Tryz.underlying150 ti27 rfl (by decide) rfl (by decide) ⟨_, _, rfl, (cE_sl rfl), rfl⟩ (by rfl) (by simp [ofV]) rfl (by simp)) ?_
              refine al_m rfl (m_append rfl rfl rfl rfl (by simp; omega) rfl el150 (by intro r hr; obtain ⟨n, _, rfl⟩ := List.mem_map.1 hr; rfl) (by simp) (by simp; omega) (by unfold maxLen; simp; omega)) ?_
              refine al_y rfl rfl (y_assignS rfl rfl) ?_
              refine al_nil ?_
              refine qt_normal ?_
              refine ac_region ?_
              refine al_y rfl rfl (y_fieldAddr_pp rfl rfl rfl rfl fld29_1) ?_
              refine al_y rfl rfl (y_load_pp1 rfl rfl rfl rfl rfl rfl ty27) ?_
              refine al_y rfl rfl (y_moveP rfl rfl) ?_
              refine al_m rfl (m_append rfl rfl rfl rfl (by simp) rfl el27 (by intro r hr; obtain ⟨n, _, rfl⟩ := List.mem_map.1 hr; rfl) (by simp) (by have := rowV_len (wide := y1) (l := R[k]); simp; omega) (by unfold maxLen; have := rowV_len (wide := y1) (l := R[k]); simp; omega)) ?_
              refine al_y rfl rfl (y_fieldAddr_pp rfl rfl rfl rfl fld29_1) ?_
              refine al_m rfl (m_store rfl rfl rfl rfl rfl rfl (cE_psl rfl rfl (by simp)) ty27 (by rfl) (by exact Nat.le_of_ble_eq_true rfl)) ?_
              refine al_nil ?_
              refine qb_normal ?_
              refine qt_normal ?_
              refine ac_region ?_
              refine al_y rfl rfl (y_add rfl rfl rfl ⟨(by omega), (by omega)⟩) ?_
              refine al_y rfl rfl (y_moveV rfl rfl) ?_
              refine al_nil ?_
              first | exact ⟨⟨k + 1, by omega, fun i hi h => (if e : i = k then by subst e; exact hrk else hk.2 i hi (by omega))⟩, by dsimp only; omega, weak_frM (mem' := [.row [[I 0, .pub (.v (.slice none 0 0))]], .row [[I y1, .psl 2 (flatK y1 R (k + 1)).length]], .row ((flatK y1 R (k + 1)).map iE), .row ((R.take (k + 1)).map (rE y1))]) [(0, SL s), (2, .pp 0 1 0 0), (5, I y1), (7, .pp 1 1 0 0), (8, .psl 3 (k + 1)), (54, .pub (eStrs R)), (55, I (R.length : Int)), (56, I ((k + 1) : Int))] ⟨rfl, rfl, rfl, rfl, rfl, rfl, rfl, rfl, trivial⟩ (memR_eq [] (flat_len1 hlt) (flatE_snoc hlt) (rE_snoc hlt))⟩ | exact ⟨⟨k + 1, by omega, fun i hi h => (if e : i = k then by subst e; exact hrk else hk.2 i hi (by omega))⟩, by dsimp only; omega, Weak.trans (weak_frM (mem' := [.row [[I 0, .pub (.v (.slice none 0 0))]], .row [[I y1, .psl 2 (flatK y1 R (k + 1)).length]], .row ((flatK y1 R (k + 1)).map iE), .row ((R.take (k + 1)).map (rE y1)), .dead]) [(0, SL s), (2, .pp 0 1 0 0), (5, I y1), (7, .pp 1 1 0 0), (8, .psl 3 (k + 1)), (54, .pub (eStrs R)), (55, I (R.length : Int)), (56, I ((k + 1) : Int))] ⟨rfl, rfl, rfl, rfl, rfl, rfl, rfl, rfl, trivial⟩ (memR_eq [.dead] (flat_len1 hlt) (flatE_snoc hlt) (rE_snoc hlt))) (weak_cut 4 ⟨trivial, (by show 0 < 4; omega), trivial, (by show 1 < 4; omega), (by show 3 < 4; omega), trivial, trivial, trivial, trivial⟩ ⟨okR1 _, okR2 _ _ (by omega), okL_pub1, okL_pub1, trivial⟩)⟩
        · skip
          have hw0 : ¬ 0 < y1 := by simpa using h1
          have hrv : rowV y1 R[k] = [] := by unfold rowV; rw [if_neg hw0]
          have hall : (!decide (0 < y1) || (splitL 32 R[k]).all numOK) = true := by simp [hw0]
          refine ac_weak (weak_le (x := .v (.slice none 0 0)) (y := eInts (rowV y1 R[k])) 11 rfl (by rw [hrv]; exact AVle.nil)) ?_
          refine ac_skip ?_
          refine qt_normal ?_
          refine ac_seq ?_
          refine ac_region ?_
          refine al_y rfl rfl (y_moveP rfl rfl) ?_
          refine al_y rfl rfl (y_len_map rfl rfl Tryz.underlying27) ?_
          refine al_y rfl rfl (y_moveV rfl rfl) ?_
          refine al_y rfl rfl (y_eql rfl rfl rfl) ?_
          refine al_y rfl rfl (y_moveV rfl rfl) ?_
          refine al_xo (av := [_, _]) rfl rfl rfl ⟨rfl, rfl, trivial⟩ (f143 _ _) (fun hx6 u => ?_) (fun y6 hx6 => ?_)
          · skip
            have hnone : readP s = none := readP_no (by
              have h := sure_none hx6
              have hr : (rowsS s).all (rowOK (wideOf s)) = false := by
                rw [← hy1, ← hR2, List.all_eq_false]
                exact ⟨R[k], List.getElem_mem hlt, by unfold rowOK; rw [h]; simp⟩
              unfold readOK; rw [hr]; simp)
            refine qt_panic ?_
            refine qb_panic ?_
            refine qt_panic ?_
            refine qt_panic ?_
            refine qb_panic ?_
            refine qt_panic ?_
            exact xend_pan hnone (AVle.refl _)
          refine al_nil ?_
          refine qt_normal ?_
          refine ac_seq ?_
          have hs81 : (((rowV y1 R[k]).length : Int) == y1) = true := by first | exact sure_some hx5 | exact sure_some hx6
          have hrk : rowOK y1 R[k] = true := by unfold rowOK; rw [hall, hs81]; rfl
          refine ac_region ?_
          refine al_y rfl rfl (y_moveS rfl rfl) ?_
          refine al_y rfl rfl (y_moveP rfl rfl) ?_
          refine al_y rfl rfl (y_buildSlice (size := 1) (rows := [[_]]) rfl Tryz.underlying150 ti27 rfl (by decide) rfl (by decide) ⟨_, _, rfl, (cE_sl rfl), rfl⟩ (by rfl) (by simp [ofV]) rfl (by simp)) ?_
          refine al_m rfl (m_append rfl rfl rfl rfl (by simp; omega) rfl el150 (by intro r hr; obtain ⟨n, _, rfl⟩ := List.mem_map.1 hr; rfl) (by simp) (by simp; omega) (by unfold maxLen; simp; omega)) ?_
          refine al_y rfl rfl (y_assignS rfl rfl) ?_
          refine al_nil ?_
          refine qt_normal ?_
          refine ac_region ?_
          refine al_y rfl rfl (y_fieldAddr_pp rfl rfl rfl rfl fld29_1) ?_
          refine al_y rfl rfl (y_load_pp1 rfl rfl rfl rfl rfl rfl ty27) ?_
          refine al_y rfl rfl (y_moveP rfl rfl) ?_
          refine al_m rfl (m_append rfl rfl rfl rfl (by simp) rfl el27 (by intro r hr; obtain ⟨n, _, rfl⟩ := List.mem_map.1 hr; rfl) (by simp) (by have := rowV_len (wide := y1) (l := R[k]); simp; omega) (by unfold maxLen; have := rowV_len (wide := y1) (l := R[k]); simp; omega)) ?_
          refine al_y rfl rfl (y_fieldAddr_pp rfl rfl rfl rfl fld29_1) ?_
          refine al_m rfl (m_store rfl rfl rfl rfl rfl rfl (cE_psl rfl rfl (by simp)) ty27 (by rfl) (by exact Nat.le_of_ble_eq_true rfl)) ?_
          refine al_nil ?_
          refine qb_normal ?_
          refine qt_normal ?_
          refine ac_region ?_
          refine al_y rfl rfl (y_add rfl rfl rfl ⟨(by omega), (by omega)⟩) ?_
          refine al_y rfl rfl (y_moveV rfl rfl) ?_
          refine al_nil ?_
          first | exact ⟨⟨k + 1, by omega, fun i hi h => (if e : i = k then by subst e; exact hrk else hk.2 i hi (by omega))⟩, by dsimp only; omega, weak_frM (mem' := [.row [[I 0, .pub (.v (.slice none 0 0))]], .row [[I y1, .psl 2 (flatK y1 R (k + 1)).length]], .row ((flatK y1 R (k + 1)).map iE), .row ((R.take (k + 1)).map (rE y1))]) [(0, SL s), (2, .pp 0 1 0 0), (5, I y1), (7, .pp 1 1 0 0), (8, .psl 3 (k + 1)), (54, .pub (eStrs R)), (55, I (R.length : Int)), (56, I ((k + 1) : Int))] ⟨rfl, rfl, rfl, rfl, rfl, rfl, rfl, rfl, trivial⟩ (memR_eq [] (flat_len1 hlt) (flatE_snoc hlt) (rE_snoc hlt))⟩ | exact ⟨⟨k + 1, by omega, fun i hi h => (if e : i = k then by subst e; exact hrk else hk.2 i hi (by omega))⟩, by dsimp only; omega, Weak.trans (weak_frM (mem' := [.row [[I 0, .pub (.v (.slice none 0 0))]], .row [[I y1, .psl 2 (flatK y1 R (k + 1)).length]], .row ((flatK y1 R (k + 1)).map iE), .row ((R.take (k + 1)).map (rE y1)), .dead]) [(0, SL s), (2, .pp 0 1 0 0), (5, I y1), (7, .pp 1 1 0 0), (8, .psl 3 (k + 1)), (54, .pub (eStrs R)), (55, I (R.length : Int)), (56, I ((k + 1) : Int))] ⟨rfl, rfl, rfl, rfl, rfl, rfl, rfl, rfl, trivial⟩ (memR_eq [.dead] (flat_len1 hlt) (flatE_snoc hlt) (rE_snoc hlt))) (weak_cut 4 ⟨trivial, (by show 0 < 4; omega), trivial, (by show 1 < 4; omega), (by show 3 < 4; omega), trivial, trivial, trivial, trivial⟩ ⟨okR1 _, okR2 _ _ (by omega), okL_pub1, okL_pub1, trivial⟩)⟩
      · skip
        have hge : R.length ≤ k := by simpa using h0
        have hk2 : k = R.length := by omega
        subst hk2
        rw [List.take_length] at *
        have hrows : (rowsS s).all (rowOK (wideOf s)) = true := by
          rw [← hy1, ← hR2, List.all_eq_true]
          intro l hl
          obtain ⟨i, hi, rfl⟩ := List.getElem_of_mem hl
          exact hk.2 i hi (by omega)
        have hrok : okRows (R.map (rowV y1)) := by
          refine ⟨by rw [List.length_map]; omega, fun l hl => ?_⟩
          obtain ⟨q, hq, rfl⟩ := List.mem_map.1 hl
          have h1 := rowV_len (wide := y1) (l := q)
          have h2 := hRl q hq
          rw [← hy1, ← hR2, List.all_eq_true] at hrows
          exact ⟨by omega, rowV_ok (hrows q hq)⟩
        refine ac_exit ?_
        refine qt_exit ?_
        refine qt_exit ?_
        refine qb_exit ?_
        refine qt_normal ?_
        refine ac_seq ?_
        refine ac_weak (weak_pub (k := 3) (m := R.length) (rows := (R.map (rowV y1)).map fun l => [eInts l]) [8] (by simp [Function.comp_def, rE]) (by simp) (by intro d hd; simp at hd; subst hd; rfl)) ?_
        refine ac_region ?_
        refine al_y rfl rfl (y_moveV rfl rfl) ?_
        refine al_y rfl rfl (y_moveP rfl rfl) ?_
        refine al_y rfl rfl (y_callF (av := [_, _]) rfl ⟨rfl, rfl, trivial⟩ (f106 y1 (R.map (rowV y1)) (by omega) hrok)) ?_
        refine al_y rfl rfl (y_moveV rfl rfl) ?_
        refine al_y rfl rfl (y_eqlS rfl rfl rfl) ?_
        refine al_y rfl rfl (y_moveV rfl rfl) ?_
        refine al_xo (av := [_, _]) rfl rfl rfl ⟨rfl, rfl, trivial⟩ (f143 _ _) (fun hx7 u => ?_) (fun y7 hx7 => ?_)
        · skip
          have hnone : readP s = none := readP_no (by have h := sure_none hx7; unfold readOK valsOf; rw [← hy1, ← hR2, h]; simp)
          refine qt_panic ?_
          exact xend_pan hnone (AVle.refl _)
        refine al_nil ?_
        refine qt_normal ?_
        refine ac_seq ?_
        have hs7 := sure_some hx7
        have hok : readOK s = true := by
          unfold readOK valsOf
          rw [hk1, eH, hn1, hn2, eL, ← hy2, hs3, hrows, ← hy1, ← hR2, hs7]
          simp
        have hsome : readP s = some ⟨y1, flatK y1 R R.length⟩ := by
          unfold readP fldOfS valsOf flatK
          rw [hok, ← hy1, ← hR2, List.take_length]
          rfl
        refine ac_weak (weak_pubc (k := 2) (c := 1) (i := 0) (j := 1) (rows := (flatK y1 R R.length).map fun n => [AV.v (.int .i64 n)]) (by simp [iE, Function.comp_def]) (by simp) rfl rfl rfl rfl) ?_
        refine ac_region ?_
        refine al_y rfl rfl (y_load_ppA (cs := [_, _]) rfl rfl rfl rfl rfl (by exact Nat.le_of_ble_eq_true rfl) rfl ty29) ?_
        refine al_m rfl (m_store rfl rfl rfl rfl rfl rfl (cE_agg rfl) ty29 (by rfl) (by exact Nat.le_of_ble_eq_true rfl)) ?_
        refine al_nil ?_
        refine qt_normal ?_
        refine ac_ret ?_
        exact xend_ret (y := ⟨y1, flatK y1 R R.length⟩) hsome (.inr rfl) (ret_one rfl (res_cell rfl rfl rfl rfl ty29 rfl ⟨_, _, rfl, (by exact AVle.refl _), ⟨_, _, rfl, (by exact AVle.refl _), rfl⟩⟩))
end Go.Av
end
