/- chart.Read. · The reference: Decimal, split. · The reference: words, number, numbers. -/
import Derived.Test.YtdjncbjfejdamaaGreatDoorStB
set_option linter.unusedVariables false
set_option linter.unusedSimpArgs false
section
namespace Go.Av
open Go.Proofs
set_option maxRecDepth 100000
set_option maxHeartbeats 1000000
set_option linter.unusedSimpArgs false
variable {G : Glob}

theorem decDigits_ne (u : Nat) : Lib.decDigits u ≠ [] := by
  rw [Lib.decDigits]
  split <;> simp
theorem itoa_ne (n : Int) : 1 ≤ (Lib.itoa n).length := by
  unfold Lib.itoa
  split
  · simp
  · have := decDigits_ne n.toNat
    exact List.length_pos_iff.2 this
theorem read_ok {s : List UInt8} {f : Fld} (h : readP s = some f) : readOK s = true ∧ f = fldOfS s := by
  unfold readP at h
  split at h
  · rename_i hh; injection h with h; exact ⟨hh, h.symm⟩
  · cases h
/-- chart.Read$1 -/
theorem f107_some : DClo Tryz.prog G 107 [.pp 0 1 0 0, .pp 1 1 0 0] (some pvNone) [.row [[I 0, .pub (.v (.slice none 0 0))]], .row [[I 0]]] [.row [[I 0, .pub (.v (.slice none 0 0))]], .row [[I 4]]] := by
  refine dclo_of Tryz.func107 rfl (by kernel_rfl) rfl rfl rfl rfl rfl rfl (fun gh => ?_)
  refine ac_block ?_
  refine ac_seq ?_
  refine ac_region ?_
  refine al_y rfl rfl (y_nilN rfl rfl Tryz.underlying20) ?_
  refine al_nil ?_
  refine qt_normal ?_
  refine ac_cond rfl (fun h0 => ?_) (fun h0 => ?_)
  · skip
    exfalso; simp at h0
  · skip
    refine ac_seq ?_
    refine ac_region ?_
    refine al_y rfl rfl (y_assertT rfl rfl Tryz.underlying153 rfl) ?_
    refine al_y rfl rfl (y_extract rfl rfl rfl) ?_
    refine al_y rfl rfl (y_extract rfl rfl rfl) ?_
    refine al_nil ?_
    refine qt_normal ?_
    refine ac_cond rfl (fun h1 => ?_) (fun h1 => ?_)
    · skip
      refine ac_seq ?_
      refine ac_region ?_
      refine al_pair  rfl rfl rfl rfl rfl rfl rfl zv153 ty153 rfl (by rfl) (cE_agg rfl) rfl ?_
      refine al_nil ?_
      refine qt_normal ?_
      refine ac_region ?_
      refine al_y rfl rfl (y_build (cs := [_, _]) rfl st29 rfl rfl (by rfl) (by simp [ofV])) ?_
      refine al_m rfl (m_store rfl rfl rfl rfl rfl rfl (cE_agg rfl) ty29 (by rfl) (by exact Nat.le_of_ble_eq_true rfl)) ?_
      refine al_m rfl (m_store rfl rfl rfl rfl rfl rfl (cE_v rfl) ty30 (by rfl) (by exact Nat.le_of_ble_eq_true rfl)) ?_
      refine al_nil ?_
      refine qb_normal ?_
      exact ⟨.inl rfl, rfl, rfl⟩
    · skip
      exfalso; simp at h1

/-- chart.Read -/
theorem f57_none (s : List UInt8) (hl : s.length ≤ 400) (hr : readP s = none) : ACall Tryz.prog GT 57 [eS s] (.tup [.agg (eFld zFld), ei 4]) := by
  refine acall_def Tryz.func57 rfl (by kernel_rfl) rfl ?_
  refine ac_seq ?_
  refine ac_region ?_
  refine al_m rfl (m_alloc rfl rfl zv29 rfl rfl) ?_
  refine al_m rfl (m_alloc rfl rfl zv30 rfl rfl) ?_
  refine al_nil ?_
  refine qt_normal ?_
  refine ac_seq ?_
  refine ac_seq ?_
  refine ac_region ?_
  refine al_y rfl rfl (y_moveV rfl rfl) ?_
  refine al_y rfl rfl (y_len_SL rfl rfl Tryz.underlying9) ?_
  refine al_y rfl rfl (y_gtr rfl rfl rfl) ?_
  refine al_nil ?_
  refine qt_normal ?_
  refine ac_cond rfl (fun h0 => ?_) (fun h0 => ?_)
  · skip
    exfalso; simp at h0; omega
  · skip
    refine ac_skip ?_
    refine qt_normal ?_
    refine ac_seq ?_
    refine ac_region ?_
    refine al_y rfl rfl (y_makeFuncM rfl) ?_
    refine al_defer rfl rfl rfl rfl ?_
    refine al_nil ?_
    refine qt_normal ?_
    refine ac_seq ?_
    refine ac_region ?_
    refine al_y rfl rfl (y_moveV rfl rfl) ?_
    refine al_xo (av := [_]) rfl rfl rfl ⟨rfl, trivial⟩ (f108 s (by omega)) (fun hx0 u => ?_) (fun y0 hx0 => ?_)
    · skip
      refine qt_panic ?_
      exact .inr ⟨10, 107, _, _, _, rfl, rfl, ⟨_, rfl, ⟨_, _, rfl, (res_cell rfl rfl rfl rfl ty29 rfl (by exact ⟨_, _, rfl, (by exact AVle.refl _), ⟨_, _, rfl, (by exact AVle.nil), rfl⟩⟩)), ⟨_, _, rfl, (res_cell1 rfl rfl rfl rfl ty30 rfl (by exact AVle.refl _)), rfl⟩⟩⟩, .inr ⟨u, _, rfl, List.mem_cons_self .., f107_some⟩⟩
    exfalso; rw [hr] at hx0; cases hx0

end Go.Av
end

section
namespace Go.Av
open Go.Proofs
set_option maxRecDepth 100000
set_option maxHeartbeats 1000000
set_option linter.unusedSimpArgs false
variable {G : Glob}

theorem splitL_none {c : UInt8} : ∀ {l : List UInt8}, (∀ x ∈ l, x ≠ c) → splitL c l = [l]
  | [], _ => rfl
  | x :: xs, h => by
    simp only [splitL, if_neg (h x (List.mem_cons_self ..)), splitL_none fun y hy => h y (List.mem_cons_of_mem _ hy)]
theorem splitL_hit {c : UInt8} {b : List UInt8} : ∀ {a : List UInt8}, (∀ x ∈ a, x ≠ c) → splitL c (a ++ c :: b) = a :: splitL c b
  | [], _ => by simp [splitL]
  | x :: xs, h => by
    simp only [List.cons_append, splitL, if_neg (h x (List.mem_cons_self ..)), splitL_hit fun y hy => h y (List.mem_cons_of_mem _ hy)]
def DI (N : Nat) (p : Nat × List UInt8) : Prop := p.1 ≤ N ∧ p.2.length ≤ 21 ∧ (if p.1 < 10 then p.2 else Lib.decDigits (p.1 / 10) ++ p.2) = Lib.decDigits N
def wordsL (l : List UInt8) : List (List UInt8) := if l = [] then [] else splitL 32 l

end Go.Av
end

section
namespace Go.Av
open Go.Proofs
set_option maxRecDepth 100000
set_option maxHeartbeats 1000000
set_option linter.unusedSimpArgs false
variable {G : Glob}

def formB (w : List UInt8) : Bool := w != [] && decide (w.length ≤ 5) && w.all isDig
def numN (w : List UInt8) : Int := if formB w then numV w else 0
def numsOK (ws : List (List UInt8)) : Bool := ws.all numOK
end Go.Av
end
