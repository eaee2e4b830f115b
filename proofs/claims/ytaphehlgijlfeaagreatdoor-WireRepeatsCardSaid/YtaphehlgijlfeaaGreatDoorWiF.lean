/- Can. · The reference's Can; brief. -/
import Derived.Test.YtaphehlgijlfeaaGreatDoorWiE
set_option linter.unusedVariables false
set_option linter.unusedSimpArgs false
section
namespace Go.Av
open Go.Proofs
set_option maxRecDepth 100000
set_option maxHeartbeats 1000000
set_option linter.unusedSimpArgs false
variable {G : Glob}

def figL (g : G5) : List Int := [g.a, g.b, g.c, g.d, g.e]
def figA (g : G5) (k : Nat) : Int := (figL g).getD k 0
def five (g : G5) (w : List UInt8) : List (Int × Int) := (w.map fun b => (b.toNat : Int)).zip (figL g)
theorem five_len {g : G5} {w : List UInt8} (h : w.length = 5) : (five g w).length = 5 := by simp [five, figL, h]
theorem five_at {g : G5} {w : List UInt8} (h : w.length = 5) {k : Nat} (hk : k < 5) : (five g w)[k]'(by rw [five_len h]; exact hk) = ((w[k].toNat : Int), figA g k) := by
  have e : (figL g)[k]'(by simp [figL]; omega) = figA g k := by
    unfold figA
    rw [List.getD_eq_getElem?_getD, List.getElem?_eq_getElem (by simp [figL]; omega)]; rfl
  simp [five, e]
def okP (c : Cod) (x : Int × Int) : Bool := rgt x.1 x.2 || wrg c x.1 x.2
def wrN (x : Int × Int) : Int := if rgt x.1 x.2 then 0 else 1
def cntW (xs : List (Int × Int)) : Int := xs.foldl (fun s x => s + wrN x) 0
def cntP (l : List (List (Int × Int))) : Int := l.foldl (fun s xs => s + cntW xs) 0
theorem cntW_step {xs : List (Int × Int)} {k : Nat} (h : k < xs.length) : cntW (xs.take (k + 1)) = cntW (xs.take k) + wrN xs[k] := by
  unfold cntW; rw [List.take_succ_eq_append_getElem h, List.foldl_append]; rfl
theorem cntP_step {l : List (List (Int × Int))} {k : Nat} (h : k < l.length) : cntP (l.take (k + 1)) = cntP (l.take k) + cntW l[k] := by
  unfold cntP; rw [List.take_succ_eq_append_getElem h, List.foldl_append]; rfl
def prs (m : List Int) (l : List (List UInt8)) : List (List (Int × Int)) := ((grps m).zip l).map fun p => five p.1 p.2
def canB (c : Cod) (m : List Int) (l : List (List UInt8)) : Bool := ((prs m l).all fun xs => xs.all (okP c)) && decide (cntP (prs m l) ≤ c.most)
theorem prs_at {m : List Int} {l : List (List UInt8)} {q : Nat} (h1 : q < (grps m).length) (h2 : q < l.length) : (prs m l)[q]'(by simp [prs]; omega) = five (grps m)[q] l[q] := by simp [prs]
theorem cop_at {c : Cod} {l : List (List UInt8)} (h : copB c l = true) : (l.length : Int) = (c.fields.length : Int) + 1 ∧ ∀ w ∈ l, ofB copR w = true := by
  simp only [copB, Bool.and_eq_true, List.all_eq_true, beq_iff_eq] at h
  exact ⟨h.2.1, h.1⟩
theorem msg_len {c : Cod} {m : List Int} (h : msgB c m = true) : m.length = c.fields.length := by simp [msgB, eqF] at h; exact h.1

end Go.Av
end

section
namespace Go.Av
open Go.Proofs
set_option maxRecDepth 100000
set_option maxHeartbeats 1000000
set_option linter.unusedSimpArgs false
variable {G : Glob}

theorem wrN_bd (x : Int × Int) : 0 ≤ wrN x ∧ wrN x ≤ 1 := by unfold wrN; split <;> omega
def brfB (l : List (List UInt8)) : Bool := decide (l.length ≤ 12) && l.all fun w => decide (w.length ≤ 9)
theorem f65 (l : List (List UInt8)) : ACall Tryz.prog G 65 [eStrs l] (.v (.bool (brfB l))) := by
 refine acall_of Tryz.func65 rfl (by kernel_rfl) rfl ?_
 refine ac_seq ?_
 refine ac_region ?_
 refine al_y rfl rfl (y_assignV rfl rfl) ?_
 refine al_nil ?_
 refine qt_normal ?_
 refine ac_seq ?_
 refine ac_seq ?_
 refine ac_region ?_
 refine al_y rfl rfl (y_assignV rfl rfl) ?_
 refine al_nil ?_
 refine qt_normal ?_
 refine ac_block ?_
 refine ac_loop (ι := { q : Nat // q ≤ l.length ∧ q ≤ 12 ∧ (l.take q).all (fun w => decide (w.length ≤ 9)) = true }) (fun q => ⟨Tryz.f65.ntmps, frL [(0, .pub (eStrs l)), (3, I (q.1 : Int))], []⟩) (fun q => l.length - q.1) (⟨0, by simp⟩) ?_ ?_
 ·
  exact weak_frM _ ⟨rfl, rfl, trivial⟩ (rfl)
 ·
  rintro ⟨q, hq⟩
  dsimp only
  refine ac_seq ?_
  refine ac_seq ?_
  refine ac_region ?_
  refine al_y rfl rfl (y_moveV rfl rfl) ?_
  refine al_y rfl rfl (y_moveP rfl rfl) ?_
  refine al_y rfl rfl (y_len rfl rfl rfl Tryz.underlying34) ?_
  refine al_y rfl rfl (y_lss rfl rfl rfl) ?_
  refine al_y rfl rfl (y_moveV rfl rfl) ?_
  refine al_maybe rfl rfl rfl (fun hg => y_moveV rfl rfl) ?_
  refine al_maybe rfl rfl rfl (fun hg => y_lss rfl (if_pos hg) rfl) ?_
  refine al_y rfl rfl (y_and rfl rfl rfl rfl) ?_
  refine al_nil ?_
  refine qt_normal ?_
  refine ac_cond rfl (fun h0 => ?_) (fun h0 => ?_)
  ·
   have hlt : q < l.length := by simp [eStrs] at h0; omega
   have hl12 : q < 12 := by simp [eStrs] at h0; omega
   refine ac_skip ?_
   refine qt_normal ?_
   refine ac_seq ?_
   refine ac_block ?_
   refine ac_seq ?_
   refine ac_region ?_
   refine al_y rfl rfl (y_moveP rfl rfl) ?_
   refine al_y rfl rfl (y_moveV rfl rfl) ?_
   refine al_y rfl rfl (y_indexAddr rfl rfl rfl slc34 (by omega) (str_at hlt) str_len) ?_
   refine al_y rfl rfl (y_load1 rfl rfl rfl ty9) ?_
   refine al_y rfl rfl (y_len_SL rfl rfl Tryz.underlying9) ?_
   refine al_y rfl rfl (y_gtr rfl rfl rfl) ?_
   refine al_nil ?_
   refine qt_normal ?_
   refine ac_cond rfl (fun h1 => ?_) (fun h1 => ?_)
   ·
    have hb : decide (l[q].length ≤ 9) = false := by simp at h1 ⊢; omega
    refine ac_seq ?_
    refine ac_region ?_
    refine al_y rfl rfl (y_assignV rfl rfl) ?_
    refine al_nil ?_
    refine qt_normal ?_
    refine ac_ret ?_
    refine qb_ret ?_
    refine qt_ret ?_
    refine qt_ret ?_
    refine qb_ret ?_
    refine qt_ret ?_
    exact ⟨.inr rfl, AVle.of (by rw [brfB, all_no (p := fun w : List UInt8 => decide (w.length ≤ 9)) hlt hb, Bool.and_false])⟩
   ·
    have hb : decide (l[q].length ≤ 9) = true := by simp at h1 ⊢; omega
    refine ac_skip ?_
    refine qb_normal ?_
    refine qt_normal ?_
    refine ac_region ?_
    refine al_y rfl rfl (y_moveV rfl rfl) ?_
    refine al_y rfl rfl (y_add rfl rfl rfl ⟨(by omega), (by omega)⟩) ?_
    refine al_y rfl rfl (y_assignV rfl rfl) ?_
    refine al_nil ?_
    exact ⟨⟨q + 1, by omega, by omega, all_take hq.2.2 hlt hb⟩, by dsimp only; omega, weak_frM _ ⟨rfl, rfl, trivial⟩ (rfl)⟩
  ·
   have hge : l.length ≤ q ∨ 12 ≤ q := by simp [eStrs] at h0; omega
   refine ac_exit ?_
   refine qt_exit ?_
   refine qt_exit ?_
   refine qb_exit ?_
   refine qt_normal ?_
   refine ac_seq ?_
   refine ac_region ?_
   refine al_y rfl rfl (y_moveP rfl rfl) ?_
   refine al_y rfl rfl (y_len rfl rfl rfl Tryz.underlying34) ?_
   refine al_y rfl rfl (y_leq rfl rfl rfl) ?_
   refine al_y rfl rfl (y_assignV rfl rfl) ?_
   refine al_nil ?_
   refine qt_normal ?_
   refine ac_ret ?_
   exact ⟨.inr rfl, AVle.of (congrArg (fun x : Bool => AV.v (Value.bool x)) (by rw [Bool.eq_iff_iff]; simp only [brfB, eStrs, List.length_map, Bool.and_eq_true, decide_eq_true_eq, List.all_eq_true]; constructor; exact fun h => ⟨by omega, fun w hw => by have h3 := hq.2.2; rw [List.take_of_length_le (by omega), List.all_eq_true] at h3; exact of_decide_eq_true (h3 w hw)⟩; exact fun h => by omega))⟩
end Go.Av
end
