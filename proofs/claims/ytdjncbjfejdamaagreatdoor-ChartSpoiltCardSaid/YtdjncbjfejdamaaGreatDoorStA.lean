/- chart: a line, a row, a text. · chart: sure, number. · chart.Print. -/
import Derived.Test.YtdjncbjfejdamaaGreatDoorChM
import Derived.Test.YtdjncbjfejdamaaGreatDoorChL
import Derived.Test.YtdjncbjfejdamaaGreatDoorChE
import Derived.Test.YtdjncbjfejdamaaGreatDoorLibT
import Derived.Lib.ItoaLen
set_option linter.unusedVariables false
set_option linter.unusedSimpArgs false
section
namespace Go.Av
open Go.Proofs
set_option maxRecDepth 100000
set_option maxHeartbeats 1000000
set_option linter.unusedSimpArgs false
variable {G : Glob}

open Go.Proofs
theorem shape_len {f : Fld} (hs : shapeB f = true) : 1 ≤ f.wide ∧ f.wide ≤ 6 ∧ 1 ≤ rowsOf f ∧ rowsOf f ≤ 5 ∧ (f.vals.length : Int) = f.wide * rowsOf f := by
  unfold shapeB at hs
  simp only [Bool.and_eq_true, beq_iff_eq] at hs
  obtain ⟨h1, h2, h3⟩ := hs
  have h1 := inB_iff.1 h1
  have h3 := inB_iff.1 h3
  have := Int.mul_ediv_add_emod (f.vals.length : Int) f.wide
  unfold rowsOf
  exact ⟨h1.1, h1.2, h3.1, h3.2, by omega⟩
theorem vals_bd {f : Fld} (hv : valsB f = true) : ∀ n ∈ f.vals, 0 ≤ n ∧ n ≤ 99999 := fun n hn => by
  unfold valsB at hv
  simp only [Bool.not_eq_true', List.any_eq_false] at hv
  exact inB_iff.1 (by have := hv n hn; simpa using this)
def lineL (ws : List (List UInt8)) : List UInt8 := Lib.join ws [32] ++ [10]
def rowL (l : List Int) : List UInt8 := lineL (l.map Lib.itoa)
def rowsL (vs : List (List Int)) : List UInt8 := (vs.map rowL).flatten
def wsum : Nat → List (List Int) → Int
  | _, [] => 0
  | i, l :: ls => l.sum * ((i : Int) + 1) + wsum (i + 1) ls
def chkN (wide : Int) (vs : List (List Int)) : Int := (wide + wsum 0 vs) % 97
def wChart : List UInt8 := [99, 104, 97, 114, 116]
def wEnd : List UInt8 := [101, 110, 100]
def chkW (n : Int) : List UInt8 := Lib.itoa (n / 10) ++ Lib.itoa (n % 10)
def headL (wide : Int) (vs : List (List Int)) : List UInt8 := lineL [wChart, Lib.itoa wide, Lib.itoa (vs.length : Int)]
def textL (wide : Int) (vs : List (List Int)) : List UInt8 := headL wide vs ++ rowsL vs ++ lineL [wEnd, chkW (chkN wide vs)]
theorem itoa_le {n : Int} (h : 0 ≤ n ∧ n ≤ 99999) : (Lib.itoa n).length ≤ 21 := Lib.itoa_length_le n (by omega) (by omega)
theorem join_len : ∀ (ws : List (List UInt8)) (B : Nat), (∀ w ∈ ws, w.length ≤ B) → (Lib.join ws [32]).length ≤ ws.length * (B + 1)
  | [], _, _ => by simp [Lib.join]
  | w :: ws, B, h => by
    rw [Lib.join_cons]
    have h1 : ∀ (ws : List (List UInt8)), (∀ w ∈ ws, w.length ≤ B) → (Lib.joinTail [32] ws).length ≤ ws.length * (B + 1) := by
      intro ws
      induction ws with
      | nil => intro _; simp [Lib.joinTail]
      | cons x xs ih =>
        intro hx
        have := ih fun w hw => hx w (List.mem_cons_of_mem _ hw)
        have h2 := hx x (List.mem_cons_self ..)
        simp only [Lib.joinTail, List.map_cons, List.flatten_cons, List.length_append, List.length_cons, List.length_nil] at this ⊢
        rw [Nat.add_mul]; omega
    have h2 := h1 ws fun w hw => h w (List.mem_cons_of_mem _ hw)
    have h3 := h w (List.mem_cons_self ..)
    simp only [List.length_append, List.length_cons]
    rw [Nat.add_mul]; omega
theorem line_len (ws : List (List UInt8)) (B : Nat) (h : ∀ w ∈ ws, w.length ≤ B) : (lineL ws).length ≤ ws.length * (B + 1) + 1 := by
  have := join_len ws B h
  simp only [lineL, List.length_append, List.length_cons, List.length_nil]; omega
theorem le3 {a b c : List UInt8} {B : Nat} (ha : a.length ≤ B) (hb : b.length ≤ B) (hc : c.length ≤ B) : ∀ w ∈ [a, b, c], w.length ≤ B := fun w hw => by
  simp only [List.mem_cons, List.not_mem_nil, or_false] at hw
  rcases hw with rfl | rfl | rfl <;> assumption
theorem le2 {a b : List UInt8} {B : Nat} (ha : a.length ≤ B) (hb : b.length ≤ B) : ∀ w ∈ [a, b], w.length ≤ B := fun w hw => by
  simp only [List.mem_cons, List.not_mem_nil, or_false] at hw
  rcases hw with rfl | rfl <;> assumption
theorem row_len (l : List Int) (hl : l.length ≤ 1000) (h : ∀ n ∈ l, 0 ≤ n ∧ n ≤ 99999) : (rowL l).length ≤ 22001 := by
  have := line_len (l.map Lib.itoa) 21 (fun w hw => by obtain ⟨n, hn, rfl⟩ := List.mem_map.1 hw; exact itoa_le (h n hn))
  rw [List.length_map] at this
  unfold rowL; omega
theorem rows_len : ∀ (vs : List (List Int)), (∀ l ∈ vs, l.length ≤ 1000 ∧ ∀ n ∈ l, 0 ≤ n ∧ n ≤ 99999) → (rowsL vs).length ≤ vs.length * 22001
  | [], _ => by simp [rowsL]
  | l :: vs, h => by
    have h1 := rows_len vs fun l hl => h l (List.mem_cons_of_mem _ hl)
    have h2 := row_len l (h l (List.mem_cons_self ..)).1 (h l (List.mem_cons_self ..)).2
    simp only [rowsL, List.map_cons, List.flatten_cons, List.length_append, List.length_cons] at h1 ⊢
    rw [Nat.add_mul]; omega
theorem rowsL_snoc {vs : List (List Int)} {k : Nat} (h : k < vs.length) : rowsL (vs.take (k + 1)) = rowsL (vs.take k) ++ rowL vs[k] := by
  simp only [rowsL]
  rw [List.take_add_one, List.getElem?_eq_getElem h, Option.toList_some, List.map_append, List.flatten_append]; simp
theorem sum_bd : ∀ (l : List Int), (∀ n ∈ l, 0 ≤ n ∧ n ≤ 99999) → 0 ≤ l.sum ∧ l.sum ≤ 99999 * l.length
  | [], _ => by simp
  | n :: l, h => by
    have h1 := sum_bd l fun n hn => h n (List.mem_cons_of_mem _ hn)
    have h2 := h n (List.mem_cons_self ..)
    simp only [List.sum_cons, List.length_cons]; omega
theorem mul_bd {a b A B : Int} (h0 : 0 ≤ a) (h1 : a ≤ A) (h2 : 0 ≤ b) (h3 : b ≤ B) : 0 ≤ a * b ∧ a * b ≤ A * B :=
  ⟨Int.mul_nonneg h0 h2, Int.mul_le_mul h1 h3 h2 (by omega)⟩
theorem wsum_bd : ∀ (vs : List (List Int)) (i : Nat), i + vs.length ≤ 1000 → (∀ l ∈ vs, l.length ≤ 1000 ∧ ∀ n ∈ l, 0 ≤ n ∧ n ≤ 99999) → 0 ≤ wsum i vs ∧ wsum i vs ≤ 99999000000 * vs.length
  | [], _, _, _ => ⟨Int.le_refl _, by simp only [wsum, List.length_nil]; omega⟩
  | l :: vs, i, hi, h => by
    have h1 := wsum_bd vs (i + 1) (by simp at hi; omega) fun l hl => h l (List.mem_cons_of_mem _ hl)
    have h2 := h l (List.mem_cons_self ..)
    have h3 := sum_bd l h2.2
    have h4 := mul_bd (A := 99999000) (B := 1000) h3.1 (by omega) (show (0 : Int) ≤ (i : Int) + 1 by omega) (by simp at hi; omega)
    simp only [wsum, List.length_cons]; omega
theorem wsum_app : ∀ (vs us : List (List Int)) (i : Nat), wsum i (vs ++ us) = wsum i vs + wsum (i + vs.length) us
  | [], us, i => by simp [wsum]
  | l :: vs, us, i => by
    simp only [List.cons_append, wsum, List.length_cons]
    rw [wsum_app vs us (i + 1), show i + 1 + vs.length = i + (vs.length + 1) by omega]; omega
theorem wsum_snoc {vs : List (List Int)} {k : Nat} (h : k < vs.length) : wsum 0 (vs.take (k + 1)) = wsum 0 (vs.take k) + vs[k].sum * ((k : Int) + 1) := by
  rw [List.take_add_one, List.getElem?_eq_getElem h, Option.toList_some, wsum_app]
  simp [wsum, Nat.min_eq_left (Nat.le_of_lt h)]
theorem sum_snoc {l : List Int} {j : Nat} (h : j < l.length) : (l.take (j + 1)).sum = (l.take j).sum + l[j] := by
  rw [List.take_add_one, List.getElem?_eq_getElem h, Option.toList_some, List.sum_append]; simp
theorem sum_all {l : List Int} : (l.take l.length).sum = l.sum := by rw [List.take_length]
def eRows (vs : List (List Int)) : AV := .sl (vs.map fun l => [eInts l])
def okRows (vs : List (List Int)) : Prop := vs.length ≤ 990 ∧ ∀ l ∈ vs, l.length ≤ 1000 ∧ ∀ n ∈ l, 0 ≤ n ∧ n ≤ 99999
theorem vrow_at {vs : List (List Int)} {k : Nat} (h : k < vs.length) : (vs.map fun l => [eInts l])[k]? = some [eInts vs[k]] := by simp [h]
theorem vrow_len {vs : List (List Int)} : ∀ q ∈ vs.map (fun l => [eInts l]), q.length = 1 := by simp
theorem str_at {ws : List (List UInt8)} {k : Nat} (h : k < ws.length) : (ws.map fun s => [eS s])[k]? = some [eS ws[k]] := by simp [h]
theorem str_len {ws : List (List UInt8)} : ∀ q ∈ ws.map (fun s => [eS s]), q.length = 1 := by simp
theorem strE_pub (ws : List (List UInt8)) : ws.map (fun s => [SL s]) = (ws.map fun s => [eS s]).map (·.map .pub) := by simp

/-- chart.line -/
theorem f139 (ws : List (List UInt8)) (hn : ws.length ≤ 1000000) (hl : (Lib.join ws [32]).length ≤ 1000000000) : ACall Tryz.prog GT 139 [eStrs ws] (eS (lineL ws)) := by
  refine acall_of Tryz.func139 rfl (by kernel_rfl) rfl ?_
  refine ac_seq ?_
  refine ac_region ?_
  refine al_y rfl rfl (y_assignV rfl rfl) ?_
  refine al_nil ?_
  refine qt_normal ?_
  refine ac_seq ?_
  refine ac_region ?_
  refine al_y rfl rfl (y_moveP rfl rfl) ?_
  refine al_y rfl rfl (y_callF (av := [_, _]) rfl ⟨rfl, rfl, trivial⟩ (f167 ws [32] (by omega) (by omega))) ?_
  refine al_y rfl rfl (y_addS rfl rfl rfl (by simp; omega)) ?_
  refine al_y rfl rfl (y_assignV rfl rfl) ?_
  refine al_nil ?_
  refine qt_normal ?_
  refine ac_ret ?_
  exact ⟨.inr rfl, AVle.refl _⟩

/-- chart.row -/
theorem f141 (l : List Int) (hl : l.length ≤ 1000) (hv : ∀ n ∈ l, 0 ≤ n ∧ n ≤ 99999) : ACall Tryz.prog GT 141 [eInts l] (eS (rowL l)) := by
  have hrl := row_len l hl hv
  refine acall_of Tryz.func141 rfl (by kernel_rfl) rfl ?_
  refine ac_seq ?_
  refine ac_region ?_
  refine al_y rfl rfl (y_assignV rfl rfl) ?_
  refine al_nil ?_
  refine qt_normal ?_
  refine ac_seq ?_
  refine ac_region ?_
  refine al_y rfl rfl (y_assignV rfl rfl) ?_
  refine al_nil ?_
  refine qt_normal ?_
  refine ac_seq ?_
  refine ac_seq ?_
  refine ac_region ?_
  refine al_y rfl rfl (y_moveP rfl rfl) ?_
  refine al_y rfl rfl (y_len rfl rfl rfl Tryz.underlying27) ?_
  refine al_y rfl rfl (y_moveV rfl rfl) ?_
  refine al_nil ?_
  refine qt_normal ?_
  refine ac_block ?_
  refine ac_weak (weak_nil 3 rfl) ?_
  refine ac_loop (ι := { k : Nat // k ≤ l.length }) (fun k => ⟨Tryz.f141.ntmps, frL [(6, .pub (eInts l)), (7, I (l.length : Int)), (3, .psl 0 k.1), (8, I (k.1 : Int))], [.row ((l.take k.1).map fun n => [SL (Lib.itoa n)])]⟩) (fun k => l.length - k.1) (⟨0, by omega⟩) ?_ ?_
  · exact weak_frM _ ⟨rfl, (congrArg (fun x : Nat => I (x : Int)) (by simp)), rfl, rfl, trivial⟩ (rfl)
  · rintro ⟨k, hk⟩
    dsimp only
    refine ac_seq ?_
    refine ac_region ?_
    refine al_y rfl rfl (y_lss rfl rfl rfl) ?_
    refine al_nil ?_
    refine qt_normal ?_
    refine ac_seq ?_
    refine ac_cond rfl (fun h0 => ?_) (fun h0 => ?_)
    · skip
      have hlt : k < l.length := by simpa using h0
      have v1 := hv _ (List.getElem_mem hlt)
      refine ac_skip ?_
      refine qt_normal ?_
      refine ac_seq ?_
      refine ac_block ?_
      refine ac_seq ?_
      refine ac_region ?_
      refine al_y rfl rfl (y_indexAddr rfl rfl rfl slc27 (by omega) (int_at hlt) int_len) ?_
      refine al_y rfl rfl (y_load1 rfl rfl rfl ty3) ?_
      refine al_y rfl rfl (y_assignV rfl rfl) ?_
      refine al_nil ?_
      refine qt_normal ?_
      refine ac_region ?_
      refine al_y rfl rfl (y_moveS rfl rfl) ?_
      refine al_y rfl rfl (y_moveV rfl rfl) ?_
      refine al_y rfl rfl (y_callF (av := [_]) rfl ⟨rfl, trivial⟩ (f140 l[k] (by omega))) ?_
      refine al_y rfl rfl (y_buildSlice (size := 1) (rows := [[_]]) rfl Tryz.underlying156 ti9 rfl (by decide) rfl (by decide) ⟨_, _, rfl, (cE_v rfl), rfl⟩ (by rfl) (by simp [ofV]) rfl (by simp)) ?_
      refine al_m rfl (m_append rfl rfl rfl rfl (by simp; omega) rfl el156 (by intro r hr; obtain ⟨n, _, rfl⟩ := List.mem_map.1 hr; rfl) (by simp) (by simp; omega) (by unfold maxLen; simp; omega)) ?_
      refine al_y rfl rfl (y_assignS rfl rfl) ?_
      refine al_nil ?_
      refine qb_normal ?_
      refine qt_normal ?_
      refine ac_region ?_
      refine al_y rfl rfl (y_add rfl rfl rfl ⟨(by omega), (by omega)⟩) ?_
      refine al_y rfl rfl (y_moveV rfl rfl) ?_
      refine al_nil ?_
      exact ⟨⟨k + 1, by omega⟩, by dsimp only; omega, weak_frM _ ⟨rfl, rfl, rfl, rfl, trivial⟩ (congrArg (fun z => [PO.row z]) (by rw [List.take_add_one, List.getElem?_eq_getElem hlt, Option.toList_some, List.map_append]; rfl))⟩
    · skip
      have hge : l.length ≤ k := by simpa using h0
      have hk2 : k = l.length := by omega
      subst hk2
      refine ac_exit ?_
      refine qt_exit ?_
      refine qt_exit ?_
      refine qb_exit ?_
      refine qt_normal ?_
      refine ac_seq ?_
      refine ac_weak (weak_pub (k := 0) (m := l.length) (rows := (l.map Lib.itoa).map fun s => [eS s]) [3] (by rw [← strE_pub]; simp [Function.comp_def]) (by simp) (by intro d hd; simp at hd; subst hd; rfl)) ?_
      refine ac_region ?_
      refine al_y rfl rfl (y_moveP rfl rfl) ?_
      refine al_y rfl rfl (y_callF (av := [_]) rfl ⟨rfl, trivial⟩ (f139 (l.map Lib.itoa) (by simp; omega) (by simp only [rowL, lineL, List.length_append, List.length_cons, List.length_nil] at hrl; omega))) ?_
      refine al_y rfl rfl (y_assignV rfl rfl) ?_
      refine al_nil ?_
      refine qt_normal ?_
      refine ac_ret ?_
      exact ⟨.inr rfl, AVle.refl _⟩

/-- chart.text -/
theorem f106 (wide : Int) (vs : List (List Int)) (hw : 0 ≤ wide ∧ wide ≤ 99999) (hv : okRows vs) : ACall Tryz.prog GT 106 [.v (.int .i64 wide), eRows vs] (eS (textL wide vs)) := by
  obtain ⟨hn, hr⟩ := hv
  have hh0 : (headL wide vs).length ≤ 67 := by have := line_len [wChart, Lib.itoa wide, Lib.itoa (vs.length : Int)] 21 (le3 (by decide) (itoa_le hw) (itoa_le (by omega))); simpa [headL] using this
  have hws := wsum_bd vs 0 (by omega) hr
  have hrs := rows_len vs hr
  obtain ⟨S, hS⟩ : ∃ S, (wide + wsum 0 vs) % 97 = S := ⟨_, rfl⟩
  have hS2 : 0 ≤ S ∧ S < 97 := by omega
  refine acall_of Tryz.func106 rfl (by kernel_rfl) rfl ?_
  refine ac_seq ?_
  refine ac_region ?_
  refine al_y rfl rfl (y_assignV rfl rfl) ?_
  refine al_nil ?_
  refine qt_normal ?_
  refine ac_seq ?_
  refine ac_region ?_
  refine al_y rfl rfl (y_moveV rfl rfl) ?_
  refine al_y rfl rfl (y_callF (av := [_]) rfl ⟨rfl, trivial⟩ (f140 _ (by omega))) ?_
  refine al_y rfl rfl (y_moveP rfl rfl) ?_
  refine al_y rfl rfl (y_len_map rfl rfl Tryz.underlying150) ?_
  refine al_y rfl rfl (y_callF (av := [_]) rfl ⟨rfl, trivial⟩ (f140 _ (by omega))) ?_
  refine al_y rfl rfl (y_buildSlice (size := 1) (rows := [[_], [_], [_]]) rfl Tryz.underlying156 ti9 rfl (by decide) rfl (by decide) ⟨_, _, rfl, (cE_v rfl), ⟨_, _, rfl, (cE_v rfl), ⟨_, _, rfl, (cE_v rfl), rfl⟩⟩⟩ (by rfl) (by simp [ofV]) rfl (by simp)) ?_
  refine al_y rfl rfl (y_callF (av := [_]) rfl ⟨rfl, trivial⟩ (f139 [wChart, Lib.itoa wide, Lib.itoa (vs.length : Int)] (by simp) (by have := hh0; unfold headL lineL at this; simp only [List.length_append] at this; omega))) ?_
  refine al_y rfl rfl (y_assignV rfl rfl) ?_
  refine al_nil ?_
  refine qt_normal ?_
  refine ac_seq ?_
  refine ac_region ?_
  refine al_y rfl rfl (y_moveV rfl rfl) ?_
  refine al_y rfl rfl (y_assignV rfl rfl) ?_
  refine al_nil ?_
  refine qt_normal ?_
  refine ac_seq ?_
  refine ac_seq ?_
  refine ac_region ?_
  refine al_y rfl rfl (y_moveP rfl rfl) ?_
  refine al_y rfl rfl (y_len_map rfl rfl Tryz.underlying150) ?_
  refine al_y rfl rfl (y_moveV rfl rfl) ?_
  refine al_nil ?_
  refine qt_normal ?_
  refine ac_block ?_
  refine ac_loop (ι := { k : Nat // k ≤ vs.length }) (fun k => ⟨Tryz.f106.ntmps, frL [(0, .pub (.v (.int .i64 wide))), (5, SL (headL wide vs ++ rowsL (vs.take k.1))), (6, I (wide + wsum 0 (vs.take k.1))), (19, .pub (eRows vs)), (20, I (vs.length : Int)), (21, I (k.1 : Int))], []⟩) (fun k => vs.length - k.1) (⟨0, by omega⟩) ?_ ?_
  · exact weak_frM _ ⟨rfl, (by show SL _ = SL _; simp [rowsL, headL]), (by show I _ = I _; simp [wsum]), rfl, rfl, rfl, trivial⟩ (rfl)
  · rintro ⟨k, hk⟩
    dsimp only
    refine ac_seq ?_
    refine ac_region ?_
    refine al_y rfl rfl (y_lss rfl rfl rfl) ?_
    refine al_nil ?_
    refine qt_normal ?_
    refine ac_seq ?_
    refine ac_cond rfl (fun h0 => ?_) (fun h0 => ?_)
    · skip
      have hlt : k < vs.length := by simpa using h0
      have hrk := hr _ (List.getElem_mem hlt)
      have hwk := wsum_bd (vs.take k) 0 (by simp; omega) (fun l hl => hr l (List.mem_of_mem_take hl))
      have hlk : (rowsL (vs.take k)).length ≤ 22001 * k := by have := rows_len (vs.take k) (fun l hl => hr l (List.mem_of_mem_take hl)); simp at this; omega
      have hrl := row_len _ hrk.1 hrk.2
      rw [List.length_take] at hwk
      refine ac_skip ?_
      refine qt_normal ?_
      refine ac_seq ?_
      refine ac_block ?_
      refine ac_seq ?_
      refine ac_region ?_
      refine al_y rfl rfl (y_moveV rfl rfl) ?_
      refine al_y rfl rfl (y_indexAddr rfl rfl rfl slc150 (by omega) (vrow_at hlt) vrow_len) ?_
      refine al_y rfl rfl (y_load1 rfl rfl rfl ty27) ?_
      refine al_y rfl rfl (y_assignV rfl rfl) ?_
      refine al_y rfl rfl (y_assignP rfl rfl) ?_
      refine al_nil ?_
      refine qt_normal ?_
      refine ac_seq ?_
      refine ac_seq ?_
      refine ac_region ?_
      refine al_y rfl rfl (y_moveP rfl rfl) ?_
      refine al_y rfl rfl (y_len_map rfl rfl Tryz.underlying27) ?_
      refine al_y rfl rfl (y_moveV rfl rfl) ?_
      refine al_nil ?_
      refine qt_normal ?_
      refine ac_block ?_
      refine ac_loop (ι := { j : Nat // j ≤ vs[k].length }) (fun j => ⟨Tryz.f106.ntmps, frL [(0, .pub (.v (.int .i64 wide))), (5, SL (headL wide vs ++ rowsL (vs.take k))), (6, I (wide + wsum 0 (vs.take k) + (vs[k].take j.1).sum * ((k : Int) + 1))), (7, I (k : Int)), (8, .pub (eInts vs[k])), (19, .pub (eRows vs)), (20, I (vs.length : Int)), (21, I (k : Int)), (26, .pub (eInts vs[k])), (27, I (vs[k].length : Int)), (28, I (j.1 : Int))], []⟩) (fun j => vs[k].length - j.1) (⟨0, by omega⟩) ?_ ?_
      · exact weak_frM _ ⟨rfl, rfl, (by show I _ = I _; simp), rfl, rfl, rfl, rfl, rfl, rfl, rfl, rfl, trivial⟩ (rfl)
      · rintro ⟨j, hj⟩
        dsimp only
        refine ac_seq ?_
        refine ac_region ?_
        refine al_y rfl rfl (y_lss rfl rfl rfl) ?_
        refine al_nil ?_
        refine qt_normal ?_
        refine ac_seq ?_
        refine ac_cond rfl (fun h1 => ?_) (fun h1 => ?_)
        · skip
          have hjt : j < vs[k].length := by simpa using h1
          have v1 := hrk.2 _ (List.getElem_mem hjt)
          have hsj := sum_bd (vs[k].take j) (fun n hn => hrk.2 n (List.mem_of_mem_take hn))
          rw [List.length_take] at hsj
          have hp1 := mul_bd (A := 99999000) (B := 1000) hsj.1 (by omega) (show (0 : Int) ≤ (k : Int) + 1 by omega) (by omega)
          have hp2 := mul_bd (A := 99999) (B := 1000) v1.1 v1.2 (show (0 : Int) ≤ (k : Int) + 1 by omega) (by omega)
          refine ac_skip ?_
          refine qt_normal ?_
          refine ac_seq ?_
          refine ac_block ?_
          refine ac_seq ?_
          refine ac_region ?_
          refine al_y rfl rfl (y_indexAddr rfl rfl rfl slc27 (by omega) (int_at hjt) int_len) ?_
          refine al_y rfl rfl (y_load1 rfl rfl rfl ty3) ?_
          refine al_y rfl rfl (y_assignV rfl rfl) ?_
          refine al_nil ?_
          refine qt_normal ?_
          refine ac_region ?_
          refine al_y rfl rfl (y_moveV rfl rfl) ?_
          refine al_y rfl rfl (y_moveV rfl rfl) ?_
          refine al_y rfl rfl (y_moveV rfl rfl) ?_
          refine al_y rfl rfl (y_add rfl rfl rfl ⟨(by omega), (by omega)⟩) ?_
          refine al_y rfl rfl (y_mul rfl rfl rfl ⟨(by omega), (by omega)⟩) ?_
          refine al_y rfl rfl (y_add rfl rfl rfl ⟨(by omega), (by omega)⟩) ?_
          refine al_y rfl rfl (y_assignV rfl rfl) ?_
          refine al_nil ?_
          refine qb_normal ?_
          refine qt_normal ?_
          refine ac_region ?_
          refine al_y rfl rfl (y_add rfl rfl rfl ⟨(by omega), (by omega)⟩) ?_
          refine al_y rfl rfl (y_moveV rfl rfl) ?_
          refine al_nil ?_
          exact ⟨⟨j + 1, by omega⟩, by dsimp only; omega, weak_frM _ ⟨rfl, rfl, (by show I _ = I _; rw [sum_snoc hjt, Int.add_mul, ← Int.add_assoc]), rfl, rfl, rfl, rfl, rfl, rfl, rfl, rfl, trivial⟩ (rfl)⟩
        · skip
          have hjge : vs[k].length ≤ j := by simpa using h1
          have hj2 : j = vs[k].length := by omega
          subst hj2
          refine ac_exit ?_
          refine qt_exit ?_
          refine qt_exit ?_
          refine qb_exit ?_
          refine qt_normal ?_
          refine ac_region ?_
          refine al_y rfl rfl (y_moveV rfl rfl) ?_
          refine al_y rfl rfl (y_moveP rfl rfl) ?_
          refine al_y rfl rfl (y_callF (av := [_]) rfl ⟨rfl, trivial⟩ (f141 vs[k] (hr _ (List.getElem_mem hlt)).1 (hr _ (List.getElem_mem hlt)).2)) ?_
          refine al_y rfl rfl (y_addS rfl rfl rfl (by simp; omega)) ?_
          refine al_y rfl rfl (y_assignV rfl rfl) ?_
          refine al_nil ?_
          refine qb_normal ?_
          refine qt_normal ?_
          refine ac_region ?_
          refine al_y rfl rfl (y_add rfl rfl rfl ⟨(by omega), (by omega)⟩) ?_
          refine al_y rfl rfl (y_moveV rfl rfl) ?_
          refine al_nil ?_
          exact ⟨⟨k + 1, by omega⟩, by dsimp only; omega, weak_frM _ ⟨rfl, (by show SL _ = SL _; rw [rowsL_snoc hlt, List.append_assoc]), (by show I _ = I _; rw [wsum_snoc hlt, sum_all, Int.add_assoc]), rfl, rfl, rfl, trivial⟩ (rfl)⟩
    · skip
      have hge : vs.length ≤ k := by simpa using h0
      have hk2 : k = vs.length := by omega
      subst hk2
      rw [List.take_length] at *
      refine ac_exit ?_
      refine qt_exit ?_
      refine qt_exit ?_
      refine qb_exit ?_
      refine qt_normal ?_
      refine ac_seq ?_
      refine ac_region ?_
      refine al_y rfl rfl (y_moveV rfl rfl) ?_
      refine al_y rfl rfl (y_rem rfl rfl rfl ⟨(by omega), (by omega)⟩) ?_
      refine al_y rfl rfl (y_assignV rfl rfl) ?_
      refine al_nil ?_
      refine qt_normal ?_
      refine ac_seq ?_
      have hl1 : (Lib.itoa ((wide + wsum 0 vs) % 97 / 10)).length ≤ 21 := itoa_le (by omega)
      have hl2 : (Lib.itoa ((wide + wsum 0 vs) % 97 % 10)).length ≤ 21 := itoa_le (by omega)
      have hlast : (chkW (chkN wide vs)).length ≤ 42 := by unfold chkW chkN; rw [List.length_append]; omega
      have hend := line_len [wEnd, chkW (chkN wide vs)] 42 (le2 (by decide) hlast)
      simp only [List.length_cons, List.length_nil] at hend
      refine ac_region ?_
      refine al_y rfl rfl (y_moveV rfl rfl) ?_
      refine al_y rfl rfl (y_moveV rfl rfl) ?_
      refine al_y rfl rfl (y_quo rfl rfl rfl ⟨(by omega), (by omega), (by omega)⟩) ?_
      refine al_y rfl rfl (y_callF (av := [_]) rfl ⟨rfl, trivial⟩ (f140 _ (by omega))) ?_
      refine al_y rfl rfl (y_moveV rfl rfl) ?_
      refine al_y rfl rfl (y_rem rfl rfl rfl ⟨(by omega), (by omega)⟩) ?_
      refine al_y rfl rfl (y_callF (av := [_]) rfl ⟨rfl, trivial⟩ (f140 _ (by omega))) ?_
      refine al_y rfl rfl (y_addS rfl rfl rfl (by omega)) ?_
      refine al_y rfl rfl (y_buildSlice (size := 1) (rows := [[_], [_]]) rfl Tryz.underlying156 ti9 rfl (by decide) rfl (by decide) ⟨_, _, rfl, (cE_v rfl), ⟨_, _, rfl, (cE_v rfl), rfl⟩⟩ (by rfl) (by simp [ofV]) rfl (by simp)) ?_
      refine al_y rfl rfl (y_callF (av := [_]) rfl ⟨rfl, trivial⟩ (f139 [wEnd, chkW (chkN wide vs)] (by simp) (by have := join_len [wEnd, chkW (chkN wide vs)] 42 (le2 (by decide) hlast); simp at this; omega))) ?_
      refine al_y rfl rfl (y_addS rfl rfl rfl (by rw [List.length_append]; omega)) ?_
      refine al_y rfl rfl (y_assignV rfl rfl) ?_
      refine al_nil ?_
      refine qt_normal ?_
      refine ac_ret ?_
      exact ⟨.inr rfl, AVle.refl _⟩
end Go.Av
end

section
namespace Go.Av
open Go.Proofs
set_option maxRecDepth 100000
set_option maxHeartbeats 1000000
set_option linter.unusedSimpArgs false
variable {G : Glob}

def pvNone : AV := .ifc 153 (.agg [.top])
def sureO (b : Bool) : Option Unit := if b then some () else none
theorem sure_none {b : Bool} (h : sureO b = none) : b = false := by cases b <;> simp_all [sureO]
theorem sure_some {b : Bool} {y : Unit} (h : sureO b = some y) : b = true := by cases b <;> simp_all [sureO]
def isDig (c : UInt8) : Bool := decide (48 ≤ c.toNat) && decide (c.toNat ≤ 57)
def numV (w : List UInt8) : Int := w.foldl (fun n c => 10 * n + ((c.toNat : Int) - 48)) 0
def numOK (w : List UInt8) : Bool := w != [] && decide (w.length ≤ 5) && w.all isDig && (Lib.itoa (numV w) == w)
def numP (w : List UInt8) : Option Int := if numOK w then some (numV w) else none
theorem numV_snoc (w : List UInt8) (c : UInt8) : numV (w ++ [c]) = 10 * numV w + ((c.toNat : Int) - 48) := by simp [numV]
theorem numV_bd : ∀ (k : Nat) (w : List UInt8), w.length = k → (∀ c ∈ w, isDig c = true) → 0 ≤ numV w ∧ numV w ≤ 10 ^ k - 1
  | 0, w, hk, _ => by have := List.eq_nil_of_length_eq_zero hk; subst this; decide
  | k + 1, w, hk, h => by
    obtain ⟨u, c, rfl⟩ : ∃ u c, w = u ++ [c] := ⟨w.dropLast, w.getLast (by intro e; subst e; simp at hk), (List.dropLast_concat_getLast _).symm⟩
    have h1 := numV_bd k u (by simp at hk; exact hk) fun c hc => h c (by simp [hc])
    have h2 := h c (by simp)
    simp only [isDig, Bool.and_eq_true, decide_eq_true_eq] at h2
    rw [numV_snoc, Int.pow_succ]
    omega
theorem numV_small {w : List UInt8} (hl : w.length ≤ 5) (h : ∀ c ∈ w, isDig c = true) : 0 ≤ numV w ∧ numV w ≤ 99999 := by
  have h1 := numV_bd _ w rfl h
  have h2 : (10 : Int) ^ w.length ≤ 10 ^ 5 := by
    have : w.length = 0 ∨ w.length = 1 ∨ w.length = 2 ∨ w.length = 3 ∨ w.length = 4 ∨ w.length = 5 := by omega
    rcases this with e | e | e | e | e | e <;> rw [e] <;> decide
  omega
theorem dec_small {s : ByteArray} {k : Nat} (h : (s.get! k).toNat < 128) : Utf8.decode s k = ((s.get! k).toNat, 1) := by
  unfold Utf8.decode
  simp only [Nat.add_zero]
  rw [if_pos h]
theorem dec_big {s : ByteArray} {k : Nat} (h : ¬ (s.get! k).toNat < 128) : 128 ≤ (Utf8.decode s k).1 := by
  unfold Utf8.decode
  simp only [Nat.add_zero]
  rw [if_neg h]
  split
  · split
    · assumption
    · decide
  · split
    · split
      · rename_i hh; simp only [Bool.and_eq_true, decide_eq_true_eq] at hh; omega
      · decide
    · split
      · split
        · rename_i hh; simp only [Bool.and_eq_true, decide_eq_true_eq] at hh; omega
        · decide
      · decide
theorem get_at {w : List UInt8} {k : Nat} (h : k < w.length) : (⟨w.toArray⟩ : ByteArray).get! k = w[k] := by
  show (w.toArray)[k]! = w[k]
  simp [h]
/-- A rune that is a digit is a byte that is one. -/
theorem dec_dig {w : List UInt8} {k : Nat} (h : k < w.length) : (decide ((48 : Int) ≤ ((Utf8.decode ⟨w.toArray⟩ k).1 : Int)) && decide (((Utf8.decode ⟨w.toArray⟩ k).1 : Int) ≤ 57)) = isDig w[k] := by
  unfold isDig
  by_cases hs : w[k].toNat < 128
  · rw [dec_small (by rw [get_at h]; exact hs), get_at h]
    congr 1 <;> (congr 1; simp only [eq_iff_iff]; omega)
  · have := dec_big (s := ⟨w.toArray⟩) (k := k) (by rw [get_at h]; exact hs)
    rw [show decide (((Utf8.decode ⟨w.toArray⟩ k).1 : Int) ≤ 57) = false from by simp; omega, show decide (w[k].toNat ≤ 57) = false from by simp; omega]
    simp
theorem dec_val {w : List UInt8} {k : Nat} (h : k < w.length) (hd : isDig w[k] = true) : Utf8.decode ⟨w.toArray⟩ k = (w[k].toNat, 1) := by
  simp only [isDig, Bool.and_eq_true, decide_eq_true_eq] at hd
  rw [dec_small (by rw [get_at h]; omega), get_at h]
theorem nxK_dig {w : List UInt8} {k : Nat} (h : k < w.length) (hd : isDig w[k] = true) : nxK ⟨w.toArray⟩ k = k + 1 := by
  unfold nxK; rw [if_pos (by simpa [ByteArray.size] using h), dec_val h hd]
theorem len5 (w : List UInt8) : decide ((w.length : Int) ≤ 5) = decide (w.length ≤ 5) := by congr 1; simp only [eq_iff_iff]; omega
theorem num_no_dig {w : List UInt8} {k : Nat} (h : k < w.length) (hd : (isDig w[k] && decide (w.length ≤ 5)) = false) : numP w = none := by
  unfold numP numOK
  rw [if_neg]
  intro hh
  simp only [Bool.and_eq_true, List.all_eq_true] at hh
  rw [hh.1.2 _ (List.getElem_mem h), hh.1.1.2] at hd
  cases hd
theorem take_dig {w : List UInt8} {k : Nat} (h : ∀ i (hi : i < w.length), i < k → isDig w[i] = true) : ∀ c ∈ w.take k, isDig c = true := fun c hc => by
  obtain ⟨i, hi, rfl⟩ := List.getElem_of_mem hc
  simp only [List.length_take] at hi
  rw [List.getElem_take]
  exact h i (by omega) (by omega)
theorem numV_take {w : List UInt8} {k : Nat} (h : k < w.length) : numV (w.take (k + 1)) = 10 * numV (w.take k) + ((w[k].toNat : Int) - 48) := by
  rw [List.take_add_one, List.getElem?_eq_getElem h, Option.toList_some, numV_snoc]

/-- chart.sure -/
theorem f143 (b : Bool) (w : List UInt8) : XCall Tryz.prog G 143 [.v (.bool b), eS w] (optO pvNone (fun _ => .tup []) (sureO b)) := by
  refine xcall_of Tryz.func143 rfl (by kernel_rfl) rfl ?_
  refine ac_seq ?_
  refine ac_region ?_
  refine al_y rfl rfl (y_moveV rfl rfl) ?_
  refine al_y rfl rfl (y_not rfl rfl) ?_
  refine al_nil ?_
  refine qt_normal ?_
  refine ac_cond rfl (fun h0 => ?_) (fun h0 => ?_)
  · skip
    have hb : b = false := by cases b <;> simp_all
    refine ac_region ?_
    refine al_y rfl rfl (y_moveV rfl rfl) ?_
    refine al_y rfl rfl (y_build (cs := [_]) rfl st153 rfl ⟨_, _, rfl, (cE_v rfl), rfl⟩ (by rfl) (by simp [ofV])) ?_
    refine al_y rfl rfl (y_makeInterface rfl rfl Tryz.underlying153 rfl) ?_
    refine al_panic rfl rfl rfl (fun u => ?_)
    exact xend_pan (by rw [hb]; rfl) AVle.ifc1
  · skip
    have hb : b = true := by cases b <;> simp_all
    refine ac_skip ?_
    exact xend_ret (y := ()) (by rw [hb]; rfl) (.inl rfl) (⟨[], rfl, rfl⟩)

/-- chart.number -/
theorem f144 (w : List UInt8) (hl : w.length ≤ 1000000) : XCall Tryz.prog GT 144 [eS w] (optO pvNone (fun n => .v (.int .i64 n)) (numP w)) := by
  refine xcall_of Tryz.func144 rfl (by kernel_rfl) rfl ?_
  refine ac_seq ?_
  refine ac_region ?_
  refine al_y rfl rfl (y_assignV rfl rfl) ?_
  refine al_nil ?_
  refine qt_normal ?_
  refine ac_seq ?_
  refine ac_region ?_
  refine al_y rfl rfl (y_assignV rfl rfl) ?_
  refine al_nil ?_
  refine qt_normal ?_
  refine ac_seq ?_
  refine ac_seq ?_
  refine ac_region ?_
  refine al_y rfl rfl (y_moveV rfl rfl) ?_
  refine al_range rfl rfl rfl rfl Tryz.underlying9 (fun itb => ?_)
  refine al_nil ?_
  refine qt_normal ?_
  refine ac_block ?_
  refine ac_loop (ι := { k : Nat // k ≤ w.length ∧ (∀ i (hi : i < w.length), i < k → isDig w[i] = true) ∧ (k = 0 ∨ w.length ≤ 5) }) (fun k => ⟨⟨Tryz.f144.ntmps, [], [], false, [(itb, .stringIter ⟨w.toArray⟩ k.1)]⟩, frL [(0, SL w), (3, I (numV (w.take k.1))), (7, itP itb)], []⟩) (fun k => w.length - k.1) (⟨0, by omega, fun i _ hi => absurd hi (by omega), .inl rfl⟩) ?_ ?_
  · exact weak_frM _ ⟨rfl, rfl, rfl, trivial⟩ (rfl)
  · rintro ⟨k, hk⟩
    dsimp only
    refine ac_seq ?_
    refine ac_region ?_
    refine al_next rfl rfl rfl rfl rfl rfl ?_
    refine al_y rfl rfl (y_extract rfl rfl (nxT0 _ _)) ?_
    refine al_nil ?_
    refine qt_normal ?_
    refine ac_seq ?_
    refine ac_cond rfl (fun h0 => ?_) (fun h0 => ?_)
    · skip
      have hlt0 : k < (⟨w.toArray⟩ : ByteArray).size := by simpa using h0
      have hlt : k < w.length := by simpa [ByteArray.size] using hlt0
      refine ac_skip ?_
      refine qt_normal ?_
      refine ac_block ?_
      refine ac_seq ?_
      refine ac_region ?_
      refine al_y rfl rfl (y_extract rfl rfl (nxT2 hlt0)) ?_
      refine al_y rfl rfl (y_assignV rfl rfl) ?_
      refine al_nil ?_
      refine qt_normal ?_
      refine ac_seq ?_
      refine ac_region ?_
      refine al_y rfl rfl (y_moveV rfl rfl) ?_
      refine al_y rfl rfl (y_geq rfl rfl rfl) ?_
      refine al_y rfl rfl (y_moveV rfl rfl) ?_
      refine al_maybe rfl rfl rfl (fun hg => y_moveV rfl rfl) ?_
      refine al_maybe rfl rfl rfl (fun hg => y_leq rfl (if_pos hg) rfl) ?_
      refine al_y rfl rfl (y_and rfl rfl rfl rfl) ?_
      refine al_y rfl rfl (y_moveV rfl rfl) ?_
      refine al_maybe rfl rfl rfl (fun hg => y_moveV rfl rfl) ?_
      refine al_maybe rfl rfl rfl (fun hg => y_len_SL rfl (if_pos hg) Tryz.underlying9) ?_
      refine al_maybe rfl rfl rfl (fun hg => y_leq rfl (if_pos hg) rfl) ?_
      refine al_y rfl rfl (y_and rfl rfl rfl rfl) ?_
      refine al_y rfl rfl (y_moveV rfl rfl) ?_
      refine al_xo (av := [_, _]) rfl rfl rfl ⟨rfl, rfl, trivial⟩ (f143 _ _) (fun hx0 u => ?_) (fun y0 hx0 => ?_)
      · skip
        have hnone : numP w = none := num_no_dig hlt (by have h := sure_none hx0; rw [dec_dig hlt, len5] at h; exact h)
        refine qt_panic ?_
        refine qb_panic ?_
        refine qt_panic ?_
        refine qb_panic ?_
        refine qt_panic ?_
        exact xend_pan hnone (AVle.refl _)
      refine al_nil ?_
      refine qt_normal ?_
      have hsu : (isDig w[k] && decide (w.length ≤ 5)) = true := by have h := sure_some hx0; rw [dec_dig hlt, len5] at h; exact h
      simp only [Bool.and_eq_true, decide_eq_true_eq] at hsu
      have hdv := dec_val hlt hsu.1
      have hdd := hsu.1
      simp only [isDig, Bool.and_eq_true, decide_eq_true_eq] at hdd
      have hnt := numV_small (w := w.take k) (by simp; omega) (take_dig hk.2.1)
      have hnx := nxK_dig hlt hsu.1
      have hd1 : (Utf8.decode ⟨w.toArray⟩ k).1 = w[k].toNat := by rw [hdv]
      refine ac_region ?_
      refine al_y rfl rfl (y_moveV rfl rfl) ?_
      refine al_y rfl rfl (y_mul rfl rfl rfl ⟨(by omega), (by omega)⟩) ?_
      refine al_y rfl rfl (y_moveV rfl rfl) ?_
      refine al_y rfl rfl (y_subK rfl rfl rfl (wrap_i32 (by omega))) ?_
      refine al_y rfl rfl (y_convI rfl rfl Tryz.underlying21 Tryz.underlying3 (wrap_64 (by omega))) ?_
      refine al_y rfl rfl (y_add rfl rfl rfl ⟨(by omega), (by omega)⟩) ?_
      refine al_y rfl rfl (y_assignV rfl rfl) ?_
      refine al_nil ?_
      refine qb_normal ?_
      exact ⟨⟨k + 1, by omega, fun i hi h => (if e : i = k then by subst e; exact hsu.1 else hk.2.1 i hi (by omega)), .inr hsu.2⟩, by dsimp only; omega, weak_frN (congrArg (fun z => (⟨Tryz.f144.ntmps, [], [], false, [(itb, Obj.stringIter ⟨w.toArray⟩ z)]⟩ : NS)) hnx) _ ⟨rfl, (by show I _ = I _; rw [numV_take hlt, hd1]), rfl, trivial⟩ rfl⟩
    · skip
      have hge : w.length ≤ k := by simpa [ByteArray.size] using h0
      have hk2 : k = w.length := by omega
      subst hk2
      have hall := take_dig hk.2.1
      have hsm := numV_small (w := w) (by omega) (by rw [List.take_length] at hall; exact hall)
      rw [List.take_length] at *
      refine ac_exit ?_
      refine qt_exit ?_
      refine qt_exit ?_
      refine qb_exit ?_
      refine qt_normal ?_
      refine ac_seq ?_
      refine ac_region ?_
      refine al_y rfl rfl (y_moveV rfl rfl) ?_
      refine al_y rfl rfl (y_neqS rfl rfl rfl) ?_
      refine al_y rfl rfl (y_moveV rfl rfl) ?_
      refine al_maybe rfl rfl rfl (fun hg => y_moveV rfl rfl) ?_
      refine al_maybe rfl rfl rfl (fun hg => y_callF (av := [_]) rfl ⟨((if_pos hg)), trivial⟩ (f140 _ (by omega))) ?_
      refine al_maybe rfl rfl rfl (fun hg => y_moveV rfl rfl) ?_
      refine al_maybe rfl rfl rfl (fun hg => y_eqlS rfl (if_pos hg) (if_pos hg)) ?_
      refine al_y rfl rfl (y_and rfl rfl rfl rfl) ?_
      refine al_y rfl rfl (y_moveV rfl rfl) ?_
      refine al_xo (av := [_, _]) rfl rfl rfl ⟨rfl, rfl, trivial⟩ (f143 _ _) (fun hx1 u => ?_) (fun y1 hx1 => ?_)
      · skip
        have hnone : numP w = none := by
          have h := sure_none hx1
          unfold numP numOK
          rw [if_neg]
          intro hh
          simp only [Bool.and_eq_true] at hh
          rw [hh.1.1.1, hh.2] at h
          cases h
        refine qt_panic ?_
        exact xend_pan hnone (AVle.refl _)
      refine al_nil ?_
      refine qt_normal ?_
      refine ac_seq ?_
      have hsome : numP w = some (numV w) := by
        have h := sure_some hx1
        simp only [Bool.and_eq_true] at h
        unfold numP numOK
        rw [h.1, h.2, decide_eq_true (show w.length ≤ 5 by omega), show w.all isDig = true from by rw [List.all_eq_true]; exact hall]
        rfl
      refine ac_region ?_
      refine al_y rfl rfl (y_moveV rfl rfl) ?_
      refine al_y rfl rfl (y_assignV rfl rfl) ?_
      refine al_nil ?_
      refine qt_normal ?_
      refine ac_ret ?_
      exact xend_ret hsome (.inr rfl) (AVle.refl _)
end Go.Av
end

section
namespace Go.Av
open Go.Proofs
set_option maxRecDepth 100000
set_option maxHeartbeats 1000000
set_option linter.unusedSimpArgs false
variable {G : Glob}

def chunkI (f : Fld) (k : Nat) : List Int := (f.vals.take (((k : Int) + 1) * f.wide).toNat).drop ((k : Int) * f.wide).toNat
def chunks (f : Fld) : List (List Int) := (List.range (rowsOf f).toNat).map (chunkI f)
def printL (f : Fld) : List UInt8 := textL f.wide (chunks f)
theorem chunk_E (f : Fld) (k : Nat) : AV.sl (((f.vals.map fun n => [AV.v (.int .i64 n)]).take (((k : Int) + 1) * f.wide).toNat).drop ((k : Int) * f.wide).toNat) = eInts (chunkI f k) := by
  simp [eInts, chunkI, List.map_take, List.map_drop]
theorem chunk_mem {f : Fld} {k : Nat} {n : Int} (h : n ∈ chunkI f k) : n ∈ f.vals := List.mem_of_mem_take (List.mem_of_mem_drop h)
theorem chunks_ok {f : Fld} (hs : shapeB f = true) (hv : valsB f = true) (hl : f.vals.length ≤ 1000) : okRows (chunks f) := by
  have hsl := shape_len hs
  have hvb := vals_bd hv
  refine ⟨by simp [chunks]; omega, fun l h => ?_⟩
  obtain ⟨i, _, rfl⟩ := List.mem_map.1 h
  refine ⟨by simp [chunkI]; omega, fun n hn => hvb n (chunk_mem hn)⟩
theorem chunk_snoc {f : Fld} {k : Nat} : (List.range k).map (fun i => [EV.pub (eInts (chunkI f i))]) ++ [[EV.pub (eInts (chunkI f k))]] = (List.range (k + 1)).map (fun i => [EV.pub (eInts (chunkI f i))]) := by
  rw [List.range_succ, List.map_append]; rfl

/-- chart.Print -/
theorem f56_ok (f : Fld) (hl : f.vals.length ≤ 1000) (hs : shapeB f = true) (hv : valsB f = true) : ACall Tryz.prog GT 56 [.agg (eFld f)] (.tup [eS (printL f), ei 0]) := by
  have hsl := shape_len hs
  have hrn : ((rowsOf f).toNat : Int) = rowsOf f := by omega
  refine acall_of Tryz.func56 rfl (by kernel_rfl) rfl ?_
  refine ac_seq ?_
  refine ac_region ?_
  refine al_y rfl rfl (y_box rfl (cE_agg rfl)) ?_
  refine al_y rfl rfl (y_assignV rfl rfl) ?_
  refine al_y rfl rfl (y_assignV rfl rfl) ?_
  refine al_nil ?_
  refine qt_normal ?_
  refine ac_seq ?_
  refine ac_region ?_
  refine al_y rfl rfl (y_loadN rfl rfl ty29 (by exact Nat.le_of_ble_eq_true rfl)) ?_
  refine al_y rfl rfl (y_callF (av := [_]) rfl ⟨rfl, trivial⟩ (f67_ok f hl hs)) ?_
  refine al_y rfl rfl (y_moveP rfl rfl) ?_
  refine al_y rfl rfl (y_extract rfl rfl rfl) ?_
  refine al_y rfl rfl (y_extract rfl rfl rfl) ?_
  refine al_y rfl rfl (y_assignV rfl rfl) ?_
  refine al_y rfl rfl (y_assignV rfl rfl) ?_
  refine al_nil ?_
  refine qt_normal ?_
  refine ac_seq ?_
  refine ac_seq ?_
  refine ac_region ?_
  refine al_y rfl rfl (y_moveV rfl rfl) ?_
  refine al_y rfl rfl (y_not rfl rfl) ?_
  refine al_nil ?_
  refine qt_normal ?_
  refine ac_cond rfl (fun h0 => ?_) (fun h0 => ?_)
  · skip
    exfalso; simp [hv] at h0
  · skip
    refine ac_skip ?_
    refine qt_normal ?_
    refine ac_seq ?_
    refine ac_region ?_
    refine al_y rfl rfl (y_assignV rfl rfl) ?_
    refine al_nil ?_
    refine qt_normal ?_
    refine ac_seq ?_
    refine ac_seq ?_
    refine ac_region ?_
    refine al_y rfl rfl (y_moveV rfl rfl) ?_
    refine al_y rfl rfl (y_moveV rfl rfl) ?_
    refine al_nil ?_
    refine qt_normal ?_
    refine ac_block ?_
    refine ac_weak (weak_nil 6 rfl) ?_
    refine ac_loop (ι := { k : Nat // k ≤ (rowsOf f).toNat }) (fun k => ⟨Tryz.f56.ntmps, frL [(1, .pub (.ptr (eFld f))), (6, .psl 0 k.1), (15, I (rowsOf f)), (16, I (k.1 : Int))], [.row ((List.range k.1).map fun i => [EV.pub (eInts (chunkI f i))])]⟩) (fun k => (rowsOf f).toNat - k.1) (⟨0, by omega⟩) ?_ ?_
    · exact weak_frM _ ⟨rfl, rfl, rfl, rfl, trivial⟩ (rfl)
    · rintro ⟨k, hk⟩
      dsimp only
      refine ac_seq ?_
      refine ac_region ?_
      refine al_y rfl rfl (y_lss rfl rfl rfl) ?_
      refine al_nil ?_
      refine qt_normal ?_
      refine ac_seq ?_
      refine ac_cond rfl (fun h1 => ?_) (fun h1 => ?_)
      · skip
        have hlt : (k : Int) < rowsOf f := by simpa using h1
        have hltn : k < (rowsOf f).toNat := by omega
        have p0 : 0 ≤ (k : Int) * f.wide := Int.mul_nonneg (by omega) (by omega)
        have p1 : ((k : Int) + 1) * f.wide = (k : Int) * f.wide + f.wide := by rw [Int.add_mul, Int.one_mul]
        have p2 : ((k : Int) + 1) * f.wide ≤ rowsOf f * f.wide := Int.mul_le_mul_of_nonneg_right (by omega) (by omega)
        have p3 : rowsOf f * f.wide = f.wide * rowsOf f := Int.mul_comm _ _
        refine ac_skip ?_
        refine qt_normal ?_
        refine ac_seq ?_
        refine ac_block ?_
        refine ac_seq ?_
        refine ac_region ?_
        refine al_y rfl rfl (y_moveV rfl rfl) ?_
        refine al_y rfl rfl (y_assignV rfl rfl) ?_
        refine al_nil ?_
        refine qt_normal ?_
        refine ac_region ?_
        refine al_y rfl rfl (y_moveS rfl rfl) ?_
        refine al_y rfl rfl (y_fieldAddr rfl rfl fld29_1) ?_
        refine al_y rfl rfl (y_load1 rfl rfl rfl ty27) ?_
        refine al_y rfl rfl (y_moveV rfl rfl) ?_
        refine al_y rfl rfl (y_fieldAddr rfl rfl fld29_0) ?_
        refine al_y rfl rfl (y_load1 rfl rfl rfl ty3) ?_
        refine al_y rfl rfl (y_mul rfl rfl rfl ⟨(by omega), (by omega)⟩) ?_
        refine al_y rfl rfl (y_moveV rfl rfl) ?_
        refine al_y rfl rfl (y_add rfl rfl rfl ⟨(by omega), (by omega)⟩) ?_
        refine al_y rfl rfl (y_fieldAddr rfl rfl fld29_0) ?_
        refine al_y rfl rfl (y_load1 rfl rfl rfl ty3) ?_
        refine al_y rfl rfl (y_mul rfl rfl rfl ⟨(by omega), (by omega)⟩) ?_
        refine al_y rfl rfl (y_slice rfl rfl rfl rfl slc27 int_len (by omega) (by omega) (by simp; omega)) ?_
        refine al_y rfl rfl (y_buildSlice (size := 1) (rows := [[_]]) rfl Tryz.underlying150 ti27 rfl (by decide) rfl (by decide) ⟨_, _, rfl, (cE_sl rfl), rfl⟩ (by rfl) (by simp [ofV]) rfl (by simp)) ?_
        refine al_m rfl (m_append rfl rfl rfl rfl (by simp) rfl el150 (by intro r hr; obtain ⟨n, _, rfl⟩ := List.mem_map.1 hr; rfl) (by simp) (by simp; omega) (by unfold maxLen; simp; omega)) ?_
        refine al_y rfl rfl (y_assignS rfl rfl) ?_
        refine al_nil ?_
        refine qb_normal ?_
        refine qt_normal ?_
        refine ac_region ?_
        refine al_y rfl rfl (y_add rfl rfl rfl ⟨(by omega), (by omega)⟩) ?_
        refine al_y rfl rfl (y_moveV rfl rfl) ?_
        refine al_nil ?_
        exact ⟨⟨k + 1, by omega⟩, by dsimp only; omega, weak_frM _ ⟨rfl, rfl, rfl, rfl, trivial⟩ (congrArg (fun z => [PO.row z]) (by rw [← chunk_snoc, ← chunk_E f k]; rfl))⟩
      · skip
        have hge : ¬ (k : Int) < rowsOf f := by simpa using h1
        have hk2 : k = (rowsOf f).toNat := by omega
        subst hk2
        refine ac_exit ?_
        refine qt_exit ?_
        refine qt_exit ?_
        refine qb_exit ?_
        refine qt_normal ?_
        refine ac_seq ?_
        refine ac_weak (weak_pub (k := 0) (m := (rowsOf f).toNat) (rows := (chunks f).map fun l => [eInts l]) [6] (by simp [chunks, Function.comp_def]) (by simp [chunks]) (by intro d hd; simp at hd; subst hd; rfl)) ?_
        refine ac_region ?_
        refine al_y rfl rfl (y_fieldAddr rfl rfl fld29_0) ?_
        refine al_y rfl rfl (y_load1 rfl rfl rfl ty3) ?_
        refine al_y rfl rfl (y_moveP rfl rfl) ?_
        refine al_y rfl rfl (y_callF (av := [_, _]) rfl ⟨rfl, rfl, trivial⟩ (f106 f.wide (chunks f) (by omega) (chunks_ok hs hv hl))) ?_
        refine al_y rfl rfl (y_assignV rfl rfl) ?_
        refine al_y rfl rfl (y_assignV rfl rfl) ?_
        refine al_nil ?_
        refine qt_normal ?_
        refine ac_ret ?_
        exact ⟨.inr rfl, ⟨_, rfl, ⟨_, _, rfl, AVle.refl _, ⟨_, _, rfl, AVle.refl _, rfl⟩⟩⟩⟩
end Go.Av
end
