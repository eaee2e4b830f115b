/- Groups with holes. -/
import Derived.Test.YtaphehlgijlfeaaGreatDoorWiQ
import Derived.Test.YtaphehlgijlfeaaGreatDoorWiC
import Derived.Test.YtaphehlgijlfeaaGreatDoorWiN
set_option linter.unusedVariables false
set_option linter.unusedSimpArgs false
section
namespace Go.Av
open Go.Proofs
set_option maxRecDepth 100000
set_option maxHeartbeats 1000000
set_option linter.unusedSimpArgs false
variable {G : Glob}

/-- Strings in a row of the call's own. -/
def sRows (l : List (List UInt8)) : List (List EV) := l.map fun s => [SL s]
theorem sRows_len (l : List (List UInt8)) : (sRows l).length = l.length := by simp [sRows]
theorem sRows_get {l : List (List UInt8)} {o : Nat} (h : o < l.length) : (sRows l)[o]? = some [SL (l.getD o [])] := by simp [sRows, h]
theorem sRows_one (l : List (List UInt8)) : ∀ q ∈ sRows l, q.length = 1 := by simp [sRows]
theorem sRows_set {l : List (List UInt8)} {o : Nat} {x y z : List UInt8} (e : y = z) : (sRows l).set o (putCells [SL x] 0 [SL y]) = sRows (l.set o z) := by subst e; simp [sRows, putCells, List.map_set]
theorem sRows_pub (l : List (List UInt8)) : sRows l = (l.map fun s => [eS s]).map (·.map .pub) := by simp [sRows]
theorem putW_eq (w : List UInt8) (p : Nat) (b : UInt8) : (((w.take (p : Int).toNat).drop (0 : Int).toNat) ++ [b]) ++ ((w.take (w.length : Int).toNat).drop ((p : Int) + 1).toNat) = putW w p b := by
  have e : ((p : Int) + 1).toNat = p + 1 := by omega
  rw [e]; simp [putW]

/-- isobarref02.Groups -/
theorem m35 (m : List Int) (hl : m.length ≤ 1000) (hm : ∀ n ∈ m, 0 ≤ n ∧ n ≤ 1000000000000) : MCall Tryz.prog G 35 [.pub (eInts m)] [] (.ret (.psl 0 (m.length + 1)) [.row (sRows (grpsS m))]) := by
  have cb := ckN_bd m
  refine mcall_of Tryz.func35 rfl (by kernel_rfl) rfl (fun gh hold => ?_)
  refine ac_seq ?_
  refine ac_region ?_
  refine al_y rfl rfl (y_assignV rfl rfl) ?_
  refine al_nil ?_
  refine qt_normal ?_
  refine ac_seq ?_
  refine ac_region ?_
  refine al_y rfl rfl (y_assignV rfl rfl) ?_
  refine al_nil ?_
  refine qt_normal ?_
  refine ac_seq ?_
  refine ac_region ?_
  refine al_y rfl rfl (y_assignV rfl rfl) ?_
  refine al_nil ?_
  refine qt_normal ?_
  refine ac_seq ?_
  refine ac_seq ?_
  refine ac_region ?_
  refine al_y rfl rfl (y_assignV rfl rfl) ?_
  refine al_nil ?_
  refine qt_normal ?_
  refine ac_block ?_
  refine ac_loop (ι := { k : Nat // k < 6 }) (fun k => match k.1 with | 0 => ⟨(⟨Tryz.f35.ntmps, [], gh, false, hold⟩ : NS), frL [(0, .pub (eInts m)), (3, nilE), (4, I (ckN m 0)), (5, I 0)], []⟩ | 1 => ⟨(⟨Tryz.f35.ntmps, [], gh, false, hold⟩ : NS), frL [(0, .pub (eInts m)), (3, nilE), (4, I (ckN m 1)), (5, I 1)], []⟩ | 2 => ⟨(⟨Tryz.f35.ntmps, [], gh, false, hold⟩ : NS), frL [(0, .pub (eInts m)), (3, nilE), (4, I (ckN m 2)), (5, I 2)], []⟩ | 3 => ⟨(⟨Tryz.f35.ntmps, [], gh, false, hold⟩ : NS), frL [(0, .pub (eInts m)), (3, nilE), (4, I (ckN m 3)), (5, I 3)], []⟩ | 4 => ⟨(⟨Tryz.f35.ntmps, [], gh, false, hold⟩ : NS), frL [(0, .pub (eInts m)), (3, nilE), (4, I (ckN m 4)), (5, I 4)], []⟩ | _ => ⟨(⟨Tryz.f35.ntmps, [], gh, false, hold⟩ : NS), frL [(0, .pub (eInts m)), (3, nilE), (4, I (ckN m 5)), (5, I 5)], []⟩) (fun k => 6 - k.1) (⟨0, by omega⟩) ?_ ?_
  · exact weak_frM _ ⟨rfl, rfl, rfl, rfl, trivial⟩ (rfl)
  · rintro ⟨k, hk⟩
    have hk3 : k = 0 ∨ k = 1 ∨ k = 2 ∨ k = 3 ∨ k = 4 ∨ k = 5 := by omega
    rcases hk3 with rfl | rfl | rfl | rfl | rfl | rfl
    · dsimp only
      refine ac_seq ?_
      refine ac_seq ?_
      refine ac_region ?_
      refine al_y rfl rfl (y_moveV rfl rfl) ?_
      refine al_y rfl rfl (y_lss rfl rfl rfl) ?_
      refine al_nil ?_
      refine qt_normal ?_
      refine ac_cond rfl (fun h0 => ?_) (fun h0 => ?_)
      · skip
        refine ac_skip ?_
        refine qt_normal ?_
        refine ac_seq ?_
        refine ac_block ?_
        refine ac_seq ?_
        refine ac_region ?_
        refine al_y rfl rfl (y_assignV rfl rfl) ?_
        refine al_nil ?_
        refine qt_normal ?_
        refine ac_seq ?_
        refine ac_seq ?_
        refine ac_region ?_
        refine al_y rfl rfl (y_assignV rfl rfl) ?_
        refine al_nil ?_
        refine qt_normal ?_
        refine ac_block ?_
        refine ac_loop (ι := { q : Nat // q ≤ m.length }) (fun q => ⟨(⟨Tryz.f35.ntmps, [], gh, false, hold⟩ : NS), frL [(0, .pub (eInts m)), (3, nilE), (4, I (ckN m 0)), (5, I 0), (6, I (sumD (m.take q.1) 0)), (7, I (q.1 : Int))], []⟩) (fun q => m.length - q.1) (⟨0, by omega⟩) ?_ ?_
        · exact weak_frM _ ⟨rfl, rfl, rfl, rfl, rfl, rfl, trivial⟩ (rfl)
        · rintro ⟨q, hq⟩
          dsimp only
          have sb := sumD_bd (m.take q) 0
          have sl : (m.take q).length ≤ q := by simp; omega
          refine ac_seq ?_
          refine ac_seq ?_
          refine ac_region ?_
          refine al_y rfl rfl (y_moveV rfl rfl) ?_
          refine al_y rfl rfl (y_moveP rfl rfl) ?_
          refine al_y rfl rfl (y_len rfl rfl rfl Tryz.underlying23) ?_
          refine al_y rfl rfl (y_lss rfl rfl rfl) ?_
          refine al_nil ?_
          refine qt_normal ?_
          refine ac_cond rfl (fun h1 => ?_) (fun h1 => ?_)
          · skip
            have hlt : q < m.length := by simpa [eInts] using h1
            have v1 := hm _ (List.getElem_mem hlt)
            have db := dig_bd (n := m[q]) 0
            have db1 := dig_bd (n := m[q]) 1
            have db2 := dig_bd (n := m[q]) 2
            have db3 := dig_bd (n := m[q]) 3
            have db4 := dig_bd (n := m[q]) 4
            refine ac_skip ?_
            refine qt_normal ?_
            refine ac_seq ?_
            refine ac_block ?_
            refine ac_region ?_
            refine al_y rfl rfl (y_moveV rfl rfl) ?_
            refine al_y rfl rfl (y_moveP rfl rfl) ?_
            refine al_y rfl rfl (y_moveV rfl rfl) ?_
            refine al_y rfl rfl (y_indexAddr rfl rfl rfl slc23 (by omega) (int_at hlt) int_len) ?_
            refine al_y rfl rfl (y_load1 rfl rfl rfl ty3) ?_
            refine al_y rfl rfl (y_moveV rfl rfl) ?_
            refine al_y rfl rfl (y_callF (av := [_, _]) rfl ⟨rfl, rfl, trivial⟩ (f92 m[q] 0 v1 (by omega))) ?_
            refine al_y rfl rfl (y_add rfl rfl rfl ⟨(by omega), (by omega)⟩) ?_
            refine al_y rfl rfl (y_assignV rfl rfl) ?_
            refine al_nil ?_
            refine qb_normal ?_
            refine qt_normal ?_
            refine ac_region ?_
            refine al_y rfl rfl (y_moveV rfl rfl) ?_
            refine al_y rfl rfl (y_add rfl rfl rfl ⟨(by omega), (by omega)⟩) ?_
            refine al_y rfl rfl (y_assignV rfl rfl) ?_
            refine al_nil ?_
            exact ⟨⟨q + 1, by omega⟩, by dsimp only; omega, weak_frM _ ⟨rfl, rfl, rfl, rfl, (congrArg (fun x : Int => I x) (sumD_step hlt).symm), rfl, trivial⟩ (rfl)⟩
          · skip
            have hge : m.length ≤ q := by simpa [eInts] using h1
            have hk2 : q = m.length := by omega
            subst hk2
            refine ac_exit ?_
            refine qt_exit ?_
            refine qt_exit ?_
            refine qb_exit ?_
            refine qt_normal ?_
            refine ac_region ?_
            refine al_y rfl rfl (y_moveV rfl rfl) ?_
            refine al_y rfl rfl (y_mul rfl rfl rfl ⟨(by omega), (by omega)⟩) ?_
            refine al_y rfl rfl (y_moveV rfl rfl) ?_
            refine al_y rfl rfl (y_rem rfl rfl rfl ⟨(by omega), (by omega)⟩) ?_
            refine al_y rfl rfl (y_add rfl rfl rfl ⟨(by omega), (by omega)⟩) ?_
            refine al_y rfl rfl (y_assignV rfl rfl) ?_
            refine al_nil ?_
            refine qb_normal ?_
            refine qt_normal ?_
            refine ac_region ?_
            refine al_y rfl rfl (y_moveV rfl rfl) ?_
            refine al_y rfl rfl (y_add rfl rfl rfl ⟨(by omega), (by omega)⟩) ?_
            refine al_y rfl rfl (y_assignV rfl rfl) ?_
            refine al_nil ?_
            exact ⟨⟨1, by omega⟩, by dsimp only; omega, (by refine weak_frM (mem' := []) [(0, .pub (eInts m)), (3, nilE), (4, I (ckN m 1)), (5, I 1)] ?_ ?_; exact ⟨rfl, rfl, (congrArg (fun x => I (10 * ckN m 0 + sumD x 0 % 10)) (List.take_length ..)), rfl, trivial⟩; exact (rfl))⟩
      · skip
        exfalso; simp at h0
    · dsimp only
      refine ac_seq ?_
      refine ac_seq ?_
      refine ac_region ?_
      refine al_y rfl rfl (y_moveV rfl rfl) ?_
      refine al_y rfl rfl (y_lss rfl rfl rfl) ?_
      refine al_nil ?_
      refine qt_normal ?_
      refine ac_cond rfl (fun h0 => ?_) (fun h0 => ?_)
      · skip
        refine ac_skip ?_
        refine qt_normal ?_
        refine ac_seq ?_
        refine ac_block ?_
        refine ac_seq ?_
        refine ac_region ?_
        refine al_y rfl rfl (y_assignV rfl rfl) ?_
        refine al_nil ?_
        refine qt_normal ?_
        refine ac_seq ?_
        refine ac_seq ?_
        refine ac_region ?_
        refine al_y rfl rfl (y_assignV rfl rfl) ?_
        refine al_nil ?_
        refine qt_normal ?_
        refine ac_block ?_
        refine ac_loop (ι := { q : Nat // q ≤ m.length }) (fun q => ⟨(⟨Tryz.f35.ntmps, [], gh, false, hold⟩ : NS), frL [(0, .pub (eInts m)), (3, nilE), (4, I (ckN m 1)), (5, I 1), (6, I (sumD (m.take q.1) 1)), (7, I (q.1 : Int))], []⟩) (fun q => m.length - q.1) (⟨0, by omega⟩) ?_ ?_
        · exact weak_frM _ ⟨rfl, rfl, rfl, rfl, rfl, rfl, trivial⟩ (rfl)
        · rintro ⟨q, hq⟩
          dsimp only
          have sb := sumD_bd (m.take q) 1
          have sl : (m.take q).length ≤ q := by simp; omega
          refine ac_seq ?_
          refine ac_seq ?_
          refine ac_region ?_
          refine al_y rfl rfl (y_moveV rfl rfl) ?_
          refine al_y rfl rfl (y_moveP rfl rfl) ?_
          refine al_y rfl rfl (y_len rfl rfl rfl Tryz.underlying23) ?_
          refine al_y rfl rfl (y_lss rfl rfl rfl) ?_
          refine al_nil ?_
          refine qt_normal ?_
          refine ac_cond rfl (fun h1 => ?_) (fun h1 => ?_)
          · skip
            have hlt : q < m.length := by simpa [eInts] using h1
            have v1 := hm _ (List.getElem_mem hlt)
            have db := dig_bd (n := m[q]) 0
            have db1 := dig_bd (n := m[q]) 1
            have db2 := dig_bd (n := m[q]) 2
            have db3 := dig_bd (n := m[q]) 3
            have db4 := dig_bd (n := m[q]) 4
            refine ac_skip ?_
            refine qt_normal ?_
            refine ac_seq ?_
            refine ac_block ?_
            refine ac_region ?_
            refine al_y rfl rfl (y_moveV rfl rfl) ?_
            refine al_y rfl rfl (y_moveP rfl rfl) ?_
            refine al_y rfl rfl (y_moveV rfl rfl) ?_
            refine al_y rfl rfl (y_indexAddr rfl rfl rfl slc23 (by omega) (int_at hlt) int_len) ?_
            refine al_y rfl rfl (y_load1 rfl rfl rfl ty3) ?_
            refine al_y rfl rfl (y_moveV rfl rfl) ?_
            refine al_y rfl rfl (y_callF (av := [_, _]) rfl ⟨rfl, rfl, trivial⟩ (f92 m[q] 1 v1 (by omega))) ?_
            refine al_y rfl rfl (y_add rfl rfl rfl ⟨(by omega), (by omega)⟩) ?_
            refine al_y rfl rfl (y_assignV rfl rfl) ?_
            refine al_nil ?_
            refine qb_normal ?_
            refine qt_normal ?_
            refine ac_region ?_
            refine al_y rfl rfl (y_moveV rfl rfl) ?_
            refine al_y rfl rfl (y_add rfl rfl rfl ⟨(by omega), (by omega)⟩) ?_
            refine al_y rfl rfl (y_assignV rfl rfl) ?_
            refine al_nil ?_
            exact ⟨⟨q + 1, by omega⟩, by dsimp only; omega, weak_frM _ ⟨rfl, rfl, rfl, rfl, (congrArg (fun x : Int => I x) (sumD_step hlt).symm), rfl, trivial⟩ (rfl)⟩
          · skip
            have hge : m.length ≤ q := by simpa [eInts] using h1
            have hk2 : q = m.length := by omega
            subst hk2
            refine ac_exit ?_
            refine qt_exit ?_
            refine qt_exit ?_
            refine qb_exit ?_
            refine qt_normal ?_
            refine ac_region ?_
            refine al_y rfl rfl (y_moveV rfl rfl) ?_
            refine al_y rfl rfl (y_mul rfl rfl rfl ⟨(by omega), (by omega)⟩) ?_
            refine al_y rfl rfl (y_moveV rfl rfl) ?_
            refine al_y rfl rfl (y_rem rfl rfl rfl ⟨(by omega), (by omega)⟩) ?_
            refine al_y rfl rfl (y_add rfl rfl rfl ⟨(by omega), (by omega)⟩) ?_
            refine al_y rfl rfl (y_assignV rfl rfl) ?_
            refine al_nil ?_
            refine qb_normal ?_
            refine qt_normal ?_
            refine ac_region ?_
            refine al_y rfl rfl (y_moveV rfl rfl) ?_
            refine al_y rfl rfl (y_add rfl rfl rfl ⟨(by omega), (by omega)⟩) ?_
            refine al_y rfl rfl (y_assignV rfl rfl) ?_
            refine al_nil ?_
            exact ⟨⟨2, by omega⟩, by dsimp only; omega, (by refine weak_frM (mem' := []) [(0, .pub (eInts m)), (3, nilE), (4, I (ckN m 2)), (5, I 2)] ?_ ?_; exact ⟨rfl, rfl, (congrArg (fun x => I (10 * ckN m 1 + sumD x 1 % 10)) (List.take_length ..)), rfl, trivial⟩; exact (rfl))⟩
      · skip
        exfalso; simp at h0
    · dsimp only
      refine ac_seq ?_
      refine ac_seq ?_
      refine ac_region ?_
      refine al_y rfl rfl (y_moveV rfl rfl) ?_
      refine al_y rfl rfl (y_lss rfl rfl rfl) ?_
      refine al_nil ?_
      refine qt_normal ?_
      refine ac_cond rfl (fun h0 => ?_) (fun h0 => ?_)
      · skip
        refine ac_skip ?_
        refine qt_normal ?_
        refine ac_seq ?_
        refine ac_block ?_
        refine ac_seq ?_
        refine ac_region ?_
        refine al_y rfl rfl (y_assignV rfl rfl) ?_
        refine al_nil ?_
        refine qt_normal ?_
        refine ac_seq ?_
        refine ac_seq ?_
        refine ac_region ?_
        refine al_y rfl rfl (y_assignV rfl rfl) ?_
        refine al_nil ?_
        refine qt_normal ?_
        refine ac_block ?_
        refine ac_loop (ι := { q : Nat // q ≤ m.length }) (fun q => ⟨(⟨Tryz.f35.ntmps, [], gh, false, hold⟩ : NS), frL [(0, .pub (eInts m)), (3, nilE), (4, I (ckN m 2)), (5, I 2), (6, I (sumD (m.take q.1) 2)), (7, I (q.1 : Int))], []⟩) (fun q => m.length - q.1) (⟨0, by omega⟩) ?_ ?_
        · exact weak_frM _ ⟨rfl, rfl, rfl, rfl, rfl, rfl, trivial⟩ (rfl)
        · rintro ⟨q, hq⟩
          dsimp only
          have sb := sumD_bd (m.take q) 2
          have sl : (m.take q).length ≤ q := by simp; omega
          refine ac_seq ?_
          refine ac_seq ?_
          refine ac_region ?_
          refine al_y rfl rfl (y_moveV rfl rfl) ?_
          refine al_y rfl rfl (y_moveP rfl rfl) ?_
          refine al_y rfl rfl (y_len rfl rfl rfl Tryz.underlying23) ?_
          refine al_y rfl rfl (y_lss rfl rfl rfl) ?_
          refine al_nil ?_
          refine qt_normal ?_
          refine ac_cond rfl (fun h1 => ?_) (fun h1 => ?_)
          · skip
            have hlt : q < m.length := by simpa [eInts] using h1
            have v1 := hm _ (List.getElem_mem hlt)
            have db := dig_bd (n := m[q]) 0
            have db1 := dig_bd (n := m[q]) 1
            have db2 := dig_bd (n := m[q]) 2
            have db3 := dig_bd (n := m[q]) 3
            have db4 := dig_bd (n := m[q]) 4
            refine ac_skip ?_
            refine qt_normal ?_
            refine ac_seq ?_
            refine ac_block ?_
            refine ac_region ?_
            refine al_y rfl rfl (y_moveV rfl rfl) ?_
            refine al_y rfl rfl (y_moveP rfl rfl) ?_
            refine al_y rfl rfl (y_moveV rfl rfl) ?_
            refine al_y rfl rfl (y_indexAddr rfl rfl rfl slc23 (by omega) (int_at hlt) int_len) ?_
            refine al_y rfl rfl (y_load1 rfl rfl rfl ty3) ?_
            refine al_y rfl rfl (y_moveV rfl rfl) ?_
            refine al_y rfl rfl (y_callF (av := [_, _]) rfl ⟨rfl, rfl, trivial⟩ (f92 m[q] 2 v1 (by omega))) ?_
            refine al_y rfl rfl (y_add rfl rfl rfl ⟨(by omega), (by omega)⟩) ?_
            refine al_y rfl rfl (y_assignV rfl rfl) ?_
            refine al_nil ?_
            refine qb_normal ?_
            refine qt_normal ?_
            refine ac_region ?_
            refine al_y rfl rfl (y_moveV rfl rfl) ?_
            refine al_y rfl rfl (y_add rfl rfl rfl ⟨(by omega), (by omega)⟩) ?_
            refine al_y rfl rfl (y_assignV rfl rfl) ?_
            refine al_nil ?_
            exact ⟨⟨q + 1, by omega⟩, by dsimp only; omega, weak_frM _ ⟨rfl, rfl, rfl, rfl, (congrArg (fun x : Int => I x) (sumD_step hlt).symm), rfl, trivial⟩ (rfl)⟩
          · skip
            have hge : m.length ≤ q := by simpa [eInts] using h1
            have hk2 : q = m.length := by omega
            subst hk2
            refine ac_exit ?_
            refine qt_exit ?_
            refine qt_exit ?_
            refine qb_exit ?_
            refine qt_normal ?_
            refine ac_region ?_
            refine al_y rfl rfl (y_moveV rfl rfl) ?_
            refine al_y rfl rfl (y_mul rfl rfl rfl ⟨(by omega), (by omega)⟩) ?_
            refine al_y rfl rfl (y_moveV rfl rfl) ?_
            refine al_y rfl rfl (y_rem rfl rfl rfl ⟨(by omega), (by omega)⟩) ?_
            refine al_y rfl rfl (y_add rfl rfl rfl ⟨(by omega), (by omega)⟩) ?_
            refine al_y rfl rfl (y_assignV rfl rfl) ?_
            refine al_nil ?_
            refine qb_normal ?_
            refine qt_normal ?_
            refine ac_region ?_
            refine al_y rfl rfl (y_moveV rfl rfl) ?_
            refine al_y rfl rfl (y_add rfl rfl rfl ⟨(by omega), (by omega)⟩) ?_
            refine al_y rfl rfl (y_assignV rfl rfl) ?_
            refine al_nil ?_
            exact ⟨⟨3, by omega⟩, by dsimp only; omega, (by refine weak_frM (mem' := []) [(0, .pub (eInts m)), (3, nilE), (4, I (ckN m 3)), (5, I 3)] ?_ ?_; exact ⟨rfl, rfl, (congrArg (fun x => I (10 * ckN m 2 + sumD x 2 % 10)) (List.take_length ..)), rfl, trivial⟩; exact (rfl))⟩
      · skip
        exfalso; simp at h0
    · dsimp only
      refine ac_seq ?_
      refine ac_seq ?_
      refine ac_region ?_
      refine al_y rfl rfl (y_moveV rfl rfl) ?_
      refine al_y rfl rfl (y_lss rfl rfl rfl) ?_
      refine al_nil ?_
      refine qt_normal ?_
      refine ac_cond rfl (fun h0 => ?_) (fun h0 => ?_)
      · skip
        refine ac_skip ?_
        refine qt_normal ?_
        refine ac_seq ?_
        refine ac_block ?_
        refine ac_seq ?_
        refine ac_region ?_
        refine al_y rfl rfl (y_assignV rfl rfl) ?_
        refine al_nil ?_
        refine qt_normal ?_
        refine ac_seq ?_
        refine ac_seq ?_
        refine ac_region ?_
        refine al_y rfl rfl (y_assignV rfl rfl) ?_
        refine al_nil ?_
        refine qt_normal ?_
        refine ac_block ?_
        refine ac_loop (ι := { q : Nat // q ≤ m.length }) (fun q => ⟨(⟨Tryz.f35.ntmps, [], gh, false, hold⟩ : NS), frL [(0, .pub (eInts m)), (3, nilE), (4, I (ckN m 3)), (5, I 3), (6, I (sumD (m.take q.1) 3)), (7, I (q.1 : Int))], []⟩) (fun q => m.length - q.1) (⟨0, by omega⟩) ?_ ?_
        · exact weak_frM _ ⟨rfl, rfl, rfl, rfl, rfl, rfl, trivial⟩ (rfl)
        · rintro ⟨q, hq⟩
          dsimp only
          have sb := sumD_bd (m.take q) 3
          have sl : (m.take q).length ≤ q := by simp; omega
          refine ac_seq ?_
          refine ac_seq ?_
          refine ac_region ?_
          refine al_y rfl rfl (y_moveV rfl rfl) ?_
          refine al_y rfl rfl (y_moveP rfl rfl) ?_
          refine al_y rfl rfl (y_len rfl rfl rfl Tryz.underlying23) ?_
          refine al_y rfl rfl (y_lss rfl rfl rfl) ?_
          refine al_nil ?_
          refine qt_normal ?_
          refine ac_cond rfl (fun h1 => ?_) (fun h1 => ?_)
          · skip
            have hlt : q < m.length := by simpa [eInts] using h1
            have v1 := hm _ (List.getElem_mem hlt)
            have db := dig_bd (n := m[q]) 0
            have db1 := dig_bd (n := m[q]) 1
            have db2 := dig_bd (n := m[q]) 2
            have db3 := dig_bd (n := m[q]) 3
            have db4 := dig_bd (n := m[q]) 4
            refine ac_skip ?_
            refine qt_normal ?_
            refine ac_seq ?_
            refine ac_block ?_
            refine ac_region ?_
            refine al_y rfl rfl (y_moveV rfl rfl) ?_
            refine al_y rfl rfl (y_moveP rfl rfl) ?_
            refine al_y rfl rfl (y_moveV rfl rfl) ?_
            refine al_y rfl rfl (y_indexAddr rfl rfl rfl slc23 (by omega) (int_at hlt) int_len) ?_
            refine al_y rfl rfl (y_load1 rfl rfl rfl ty3) ?_
            refine al_y rfl rfl (y_moveV rfl rfl) ?_
            refine al_y rfl rfl (y_callF (av := [_, _]) rfl ⟨rfl, rfl, trivial⟩ (f92 m[q] 3 v1 (by omega))) ?_
            refine al_y rfl rfl (y_add rfl rfl rfl ⟨(by omega), (by omega)⟩) ?_
            refine al_y rfl rfl (y_assignV rfl rfl) ?_
            refine al_nil ?_
            refine qb_normal ?_
            refine qt_normal ?_
            refine ac_region ?_
            refine al_y rfl rfl (y_moveV rfl rfl) ?_
            refine al_y rfl rfl (y_add rfl rfl rfl ⟨(by omega), (by omega)⟩) ?_
            refine al_y rfl rfl (y_assignV rfl rfl) ?_
            refine al_nil ?_
            exact ⟨⟨q + 1, by omega⟩, by dsimp only; omega, weak_frM _ ⟨rfl, rfl, rfl, rfl, (congrArg (fun x : Int => I x) (sumD_step hlt).symm), rfl, trivial⟩ (rfl)⟩
          · skip
            have hge : m.length ≤ q := by simpa [eInts] using h1
            have hk2 : q = m.length := by omega
            subst hk2
            refine ac_exit ?_
            refine qt_exit ?_
            refine qt_exit ?_
            refine qb_exit ?_
            refine qt_normal ?_
            refine ac_region ?_
            refine al_y rfl rfl (y_moveV rfl rfl) ?_
            refine al_y rfl rfl (y_mul rfl rfl rfl ⟨(by omega), (by omega)⟩) ?_
            refine al_y rfl rfl (y_moveV rfl rfl) ?_
            refine al_y rfl rfl (y_rem rfl rfl rfl ⟨(by omega), (by omega)⟩) ?_
            refine al_y rfl rfl (y_add rfl rfl rfl ⟨(by omega), (by omega)⟩) ?_
            refine al_y rfl rfl (y_assignV rfl rfl) ?_
            refine al_nil ?_
            refine qb_normal ?_
            refine qt_normal ?_
            refine ac_region ?_
            refine al_y rfl rfl (y_moveV rfl rfl) ?_
            refine al_y rfl rfl (y_add rfl rfl rfl ⟨(by omega), (by omega)⟩) ?_
            refine al_y rfl rfl (y_assignV rfl rfl) ?_
            refine al_nil ?_
            exact ⟨⟨4, by omega⟩, by dsimp only; omega, (by refine weak_frM (mem' := []) [(0, .pub (eInts m)), (3, nilE), (4, I (ckN m 4)), (5, I 4)] ?_ ?_; exact ⟨rfl, rfl, (congrArg (fun x => I (10 * ckN m 3 + sumD x 3 % 10)) (List.take_length ..)), rfl, trivial⟩; exact (rfl))⟩
      · skip
        exfalso; simp at h0
    · dsimp only
      refine ac_seq ?_
      refine ac_seq ?_
      refine ac_region ?_
      refine al_y rfl rfl (y_moveV rfl rfl) ?_
      refine al_y rfl rfl (y_lss rfl rfl rfl) ?_
      refine al_nil ?_
      refine qt_normal ?_
      refine ac_cond rfl (fun h0 => ?_) (fun h0 => ?_)
      · skip
        refine ac_skip ?_
        refine qt_normal ?_
        refine ac_seq ?_
        refine ac_block ?_
        refine ac_seq ?_
        refine ac_region ?_
        refine al_y rfl rfl (y_assignV rfl rfl) ?_
        refine al_nil ?_
        refine qt_normal ?_
        refine ac_seq ?_
        refine ac_seq ?_
        refine ac_region ?_
        refine al_y rfl rfl (y_assignV rfl rfl) ?_
        refine al_nil ?_
        refine qt_normal ?_
        refine ac_block ?_
        refine ac_loop (ι := { q : Nat // q ≤ m.length }) (fun q => ⟨(⟨Tryz.f35.ntmps, [], gh, false, hold⟩ : NS), frL [(0, .pub (eInts m)), (3, nilE), (4, I (ckN m 4)), (5, I 4), (6, I (sumD (m.take q.1) 4)), (7, I (q.1 : Int))], []⟩) (fun q => m.length - q.1) (⟨0, by omega⟩) ?_ ?_
        · exact weak_frM _ ⟨rfl, rfl, rfl, rfl, rfl, rfl, trivial⟩ (rfl)
        · rintro ⟨q, hq⟩
          dsimp only
          have sb := sumD_bd (m.take q) 4
          have sl : (m.take q).length ≤ q := by simp; omega
          refine ac_seq ?_
          refine ac_seq ?_
          refine ac_region ?_
          refine al_y rfl rfl (y_moveV rfl rfl) ?_
          refine al_y rfl rfl (y_moveP rfl rfl) ?_
          refine al_y rfl rfl (y_len rfl rfl rfl Tryz.underlying23) ?_
          refine al_y rfl rfl (y_lss rfl rfl rfl) ?_
          refine al_nil ?_
          refine qt_normal ?_
          refine ac_cond rfl (fun h1 => ?_) (fun h1 => ?_)
          · skip
            have hlt : q < m.length := by simpa [eInts] using h1
            have v1 := hm _ (List.getElem_mem hlt)
            have db := dig_bd (n := m[q]) 0
            have db1 := dig_bd (n := m[q]) 1
            have db2 := dig_bd (n := m[q]) 2
            have db3 := dig_bd (n := m[q]) 3
            have db4 := dig_bd (n := m[q]) 4
            refine ac_skip ?_
            refine qt_normal ?_
            refine ac_seq ?_
            refine ac_block ?_
            refine ac_region ?_
            refine al_y rfl rfl (y_moveV rfl rfl) ?_
            refine al_y rfl rfl (y_moveP rfl rfl) ?_
            refine al_y rfl rfl (y_moveV rfl rfl) ?_
            refine al_y rfl rfl (y_indexAddr rfl rfl rfl slc23 (by omega) (int_at hlt) int_len) ?_
            refine al_y rfl rfl (y_load1 rfl rfl rfl ty3) ?_
            refine al_y rfl rfl (y_moveV rfl rfl) ?_
            refine al_y rfl rfl (y_callF (av := [_, _]) rfl ⟨rfl, rfl, trivial⟩ (f92 m[q] 4 v1 (by omega))) ?_
            refine al_y rfl rfl (y_add rfl rfl rfl ⟨(by omega), (by omega)⟩) ?_
            refine al_y rfl rfl (y_assignV rfl rfl) ?_
            refine al_nil ?_
            refine qb_normal ?_
            refine qt_normal ?_
            refine ac_region ?_
            refine al_y rfl rfl (y_moveV rfl rfl) ?_
            refine al_y rfl rfl (y_add rfl rfl rfl ⟨(by omega), (by omega)⟩) ?_
            refine al_y rfl rfl (y_assignV rfl rfl) ?_
            refine al_nil ?_
            exact ⟨⟨q + 1, by omega⟩, by dsimp only; omega, weak_frM _ ⟨rfl, rfl, rfl, rfl, (congrArg (fun x : Int => I x) (sumD_step hlt).symm), rfl, trivial⟩ (rfl)⟩
          · skip
            have hge : m.length ≤ q := by simpa [eInts] using h1
            have hk2 : q = m.length := by omega
            subst hk2
            refine ac_exit ?_
            refine qt_exit ?_
            refine qt_exit ?_
            refine qb_exit ?_
            refine qt_normal ?_
            refine ac_region ?_
            refine al_y rfl rfl (y_moveV rfl rfl) ?_
            refine al_y rfl rfl (y_mul rfl rfl rfl ⟨(by omega), (by omega)⟩) ?_
            refine al_y rfl rfl (y_moveV rfl rfl) ?_
            refine al_y rfl rfl (y_rem rfl rfl rfl ⟨(by omega), (by omega)⟩) ?_
            refine al_y rfl rfl (y_add rfl rfl rfl ⟨(by omega), (by omega)⟩) ?_
            refine al_y rfl rfl (y_assignV rfl rfl) ?_
            refine al_nil ?_
            refine qb_normal ?_
            refine qt_normal ?_
            refine ac_region ?_
            refine al_y rfl rfl (y_moveV rfl rfl) ?_
            refine al_y rfl rfl (y_add rfl rfl rfl ⟨(by omega), (by omega)⟩) ?_
            refine al_y rfl rfl (y_assignV rfl rfl) ?_
            refine al_nil ?_
            exact ⟨⟨5, by omega⟩, by dsimp only; omega, (by refine weak_frM (mem' := []) [(0, .pub (eInts m)), (3, nilE), (4, I (ckN m 5)), (5, I 5)] ?_ ?_; exact ⟨rfl, rfl, (congrArg (fun x => I (10 * ckN m 4 + sumD x 4 % 10)) (List.take_length ..)), rfl, trivial⟩; exact (rfl))⟩
      · skip
        exfalso; simp at h0
    · dsimp only
      refine ac_seq ?_
      refine ac_seq ?_
      refine ac_region ?_
      refine al_y rfl rfl (y_moveV rfl rfl) ?_
      refine al_y rfl rfl (y_lss rfl rfl rfl) ?_
      refine al_nil ?_
      refine qt_normal ?_
      refine ac_cond rfl (fun h0 => ?_) (fun h0 => ?_)
      · skip
        exfalso; simp at h0
      · skip
        refine ac_exit ?_
        refine qt_exit ?_
        refine qt_exit ?_
        refine qb_exit ?_
        refine qt_normal ?_
        refine ac_seq ?_
        refine ac_seq ?_
        refine ac_region ?_
        refine al_y rfl rfl (y_assignV rfl rfl) ?_
        refine al_nil ?_
        refine qt_normal ?_
        refine ac_block ?_
        refine ac_weak (weak_nil 3 rfl) ?_
        refine ac_loop (ι := { r : Nat // r ≤ m.length }) (fun r => ⟨(⟨Tryz.f35.ntmps, [], gh, false, hold⟩ : NS), frL [(0, .pub (eInts m)), (3, .psl 0 r.1), (4, I (ckN m 5)), (8, I (r.1 : Int))], [.row ((m.take r.1).map fun n => [SL (grp n)])]⟩) (fun r => m.length - r.1) (⟨0, by omega⟩) ?_ ?_
        · exact weak_frM _ ⟨rfl, rfl, rfl, rfl, trivial⟩ (rfl)
        · rintro ⟨r, hr⟩
          dsimp only
          refine ac_seq ?_
          refine ac_seq ?_
          refine ac_region ?_
          refine al_y rfl rfl (y_moveV rfl rfl) ?_
          refine al_y rfl rfl (y_moveP rfl rfl) ?_
          refine al_y rfl rfl (y_len rfl rfl rfl Tryz.underlying23) ?_
          refine al_y rfl rfl (y_lss rfl rfl rfl) ?_
          refine al_nil ?_
          refine qt_normal ?_
          refine ac_cond rfl (fun h2 => ?_) (fun h2 => ?_)
          · skip
            have hlt : r < m.length := by simpa [eInts] using h2
            have v1 := hm _ (List.getElem_mem hlt)
            refine ac_skip ?_
            refine qt_normal ?_
            refine ac_seq ?_
            refine ac_block ?_
            refine ac_region ?_
            refine al_y rfl rfl (y_moveS rfl rfl) ?_
            refine al_y rfl rfl (y_moveP rfl rfl) ?_
            refine al_y rfl rfl (y_moveV rfl rfl) ?_
            refine al_y rfl rfl (y_indexAddr rfl rfl rfl slc23 (by omega) (int_at hlt) int_len) ?_
            refine al_y rfl rfl (y_load1 rfl rfl rfl ty3) ?_
            refine al_y rfl rfl (y_callF (av := [_]) rfl ⟨rfl, trivial⟩ (f94 m[r] v1)) ?_
            refine al_y rfl rfl (y_buildSlice (size := 1) (rows := [[_]]) rfl Tryz.underlying34 ti9 rfl (by decide) rfl (by decide) ⟨_, _, rfl, (cE_v rfl), rfl⟩ (by rfl) (by simp [ofV]) rfl (by simp)) ?_
            refine al_m rfl (m_append rfl rfl rfl rfl (by simp; omega) rfl el34 (by intro r hr; obtain ⟨n, _, rfl⟩ := List.mem_map.1 hr; rfl) (by simp) (by simp; omega) (by unfold maxLen; simp; omega)) ?_
            refine al_y rfl rfl (y_assignS rfl rfl) ?_
            refine al_nil ?_
            refine qb_normal ?_
            refine qt_normal ?_
            refine ac_region ?_
            refine al_y rfl rfl (y_moveV rfl rfl) ?_
            refine al_y rfl rfl (y_add rfl rfl rfl ⟨(by omega), (by omega)⟩) ?_
            refine al_y rfl rfl (y_assignV rfl rfl) ?_
            refine al_nil ?_
            exact ⟨⟨r + 1, by omega⟩, by dsimp only; omega, weak_frM _ ⟨rfl, rfl, rfl, rfl, trivial⟩ (congrArg (fun z => [PO.row z]) (str_step hlt).symm)⟩
          · skip
            have hge : m.length ≤ r := by simpa [eInts] using h2
            have hk2 : r = m.length := by omega
            subst hk2
            refine ac_exit ?_
            refine qt_exit ?_
            refine qt_exit ?_
            refine qb_exit ?_
            refine qt_normal ?_
            refine ac_seq ?_
            refine ac_region ?_
            refine al_y rfl rfl (y_moveS rfl rfl) ?_
            refine al_y rfl rfl (y_moveV rfl rfl) ?_
            refine al_y rfl rfl (y_callF (av := [_]) rfl ⟨rfl, trivial⟩ (f94 (ckN m 5) (by omega))) ?_
            refine al_y rfl rfl (y_buildSlice (size := 1) (rows := [[_]]) rfl Tryz.underlying34 ti9 rfl (by decide) rfl (by decide) ⟨_, _, rfl, (cE_v rfl), rfl⟩ (by rfl) (by simp [ofV]) rfl (by simp)) ?_
            refine al_m rfl (m_append rfl rfl rfl rfl (by simp) rfl el34 (by intro r hr; obtain ⟨n, _, rfl⟩ := List.mem_map.1 hr; rfl) (by simp) (by simp; omega) (by unfold maxLen; simp; omega)) ?_
            refine al_y rfl rfl (y_assignS rfl rfl) ?_
            refine al_nil ?_
            refine qt_normal ?_
            refine ac_ret ?_
            exact mend_ret [] (congrArg (fun z => [PO.row z]) (by simp [sRows, grpsS, grps, grp, figs_ck, Function.comp_def])) ⟨okL_pub1, trivial⟩ (Nat.zero_le _) (.inr rfl) (show 0 < 1 by omega) rfl

/-- isobarlaw02.holed -/
theorem f33 (m : List Int) (o a o2 t : Nat) (hl : m.length ≤ 1000) (hm : ∀ n ∈ m, 0 ≤ n ∧ n ≤ 1000000000000) (ho : o ≤ m.length) (ha : a < 5) (ho2 : o2 ≤ m.length) (ht : t < 5) : ACall Tryz.prog G 33 [eInts m, ei (o : Int), ei (a : Int), ei (o2 : Int), ei (t : Int)] (eStrs (holL m o a o2 t)) := by
  have w1 : ((grpsS m).getD o []).length = 5 := getD_5 (by rw [grpsS_n]; omega) (grpsS_5 m)
  have w2 : ((putL (grpsS m) o a 63).getD o2 []).length = 5 := getD_5 (by rw [putL_len, grpsS_n]; omega) (putL_5 (by rw [grpsS_n]; omega) ha (grpsS_5 m))
  refine acall_of Tryz.func33 rfl (by kernel_rfl) rfl ?_
  refine ac_seq ?_
  refine ac_region ?_
  refine al_y rfl rfl (y_assignV rfl rfl) ?_
  refine al_nil ?_
  refine qt_normal ?_
  refine ac_seq ?_
  refine ac_region ?_
  refine al_y rfl rfl (y_moveP rfl rfl) ?_
  refine al_m rfl (m_call (f := 35) (fs := []) (cs := []) (av := [.pub (eInts m)]) rfl rfl ⟨rfl, rfl, rfl⟩ ⟨rfl, trivial⟩ (m35 m hl hm)) ?_
  refine al_y rfl rfl (y_assignS rfl rfl) ?_
  refine al_nil ?_
  refine qt_normal ?_
  refine ac_seq ?_
  refine ac_mix (fun _ => True) (fun k => match k with | 18 => .writes | _ => .here) mixed (by kernel_rfl) rfl (by kernel_rfl) trivial ?_
  refine am_h rfl rfl (y_moveS rfl rfl) ?_
  refine am_h rfl rfl (y_moveV rfl rfl) ?_
  refine am_h rfl rfl (y_moveS rfl rfl) ?_
  refine am_h rfl rfl (y_moveV rfl rfl) ?_
  refine am_h rfl rfl (y_indexAddr_psl rfl rfl rfl rfl (by rw [sRows_len, grpsS_n]) slc34 (by omega) (by omega) (sRows_one _)) ?_
  refine am_h rfl rfl (y_load_pp1 (c := SL ((grpsS m).getD o [])) rfl rfl rfl (by rw [sRows_len, grpsS_n]) (sRows_get (by rw [grpsS_n]; omega)) rfl ty9) ?_
  refine am_h rfl rfl (y_moveV rfl rfl) ?_
  refine am_h rfl rfl (y_slice_SL rfl rfl rfl rfl Tryz.underlying9 (by omega) (by omega) (by omega)) ?_
  refine am_h rfl rfl (y_addS rfl rfl rfl (by simp only [List.length_append, List.length_drop, List.length_take, List.length_cons, List.length_nil]; omega)) ?_
  refine am_h rfl rfl (y_moveS rfl rfl) ?_
  refine am_h rfl rfl (y_moveV rfl rfl) ?_
  refine am_h rfl rfl (y_indexAddr_psl rfl rfl rfl rfl (by rw [sRows_len, grpsS_n]) slc34 (by omega) (by omega) (sRows_one _)) ?_
  refine am_h rfl rfl (y_load_pp1 (c := SL ((grpsS m).getD o [])) rfl rfl rfl (by rw [sRows_len, grpsS_n]) (sRows_get (by rw [grpsS_n]; omega)) rfl ty9) ?_
  refine am_h rfl rfl (y_moveV rfl rfl) ?_
  refine am_h rfl rfl (y_add rfl rfl rfl ⟨(by omega), (by omega)⟩) ?_
  refine am_h rfl rfl (y_slice_SL rfl rfl rfl rfl Tryz.underlying9 (by omega) (by omega) (by omega)) ?_
  refine am_h rfl rfl (y_addS rfl rfl rfl (by simp only [List.length_append, List.length_drop, List.length_take, List.length_cons, List.length_nil]; omega)) ?_
  refine am_h rfl rfl (y_indexAddr_psl rfl rfl rfl rfl (by rw [sRows_len, grpsS_n]) slc34 (by omega) (by omega) (sRows_one _)) ?_
  refine am_w rfl rfl (opB_store (r := [SL ((grpsS m).getD o [])]) rfl rfl rfl rfl (by rw [sRows_len, grpsS_n]) (sRows_get (by rw [grpsS_n]; omega)) (cE_v rfl) ty9 (by rfl) (by rfl)) trivial ?_
  refine am_nil ?_
  refine qt_normal ?_
  refine ac_seq ?_
  refine ac_weak (weak_frM (mem' := [.row (sRows (putL (grpsS m) o a 63))]) [(3, I (o2 : Int)), (4, I (t : Int)), (11, .psl 0 (m.length + 1))] ?_ ?_) ?_
  · exact ⟨rfl, rfl, rfl, trivial⟩
  · exact (congrArg (fun z => [PO.row z]) (sRows_set (putW_eq _ _ _)))
  refine ac_mix (fun _ => True) (fun k => match k with | 18 => .writes | _ => .here) mixed (by kernel_rfl) rfl (by kernel_rfl) trivial ?_
  refine am_h rfl rfl (y_moveS rfl rfl) ?_
  refine am_h rfl rfl (y_moveV rfl rfl) ?_
  refine am_h rfl rfl (y_moveS rfl rfl) ?_
  refine am_h rfl rfl (y_moveV rfl rfl) ?_
  refine am_h rfl rfl (y_indexAddr_psl rfl rfl rfl rfl (by rw [sRows_len, putL_len, grpsS_n]) slc34 (by omega) (by omega) (sRows_one _)) ?_
  refine am_h rfl rfl (y_load_pp1 (c := SL ((putL (grpsS m) o a 63).getD o2 [])) rfl rfl rfl (by rw [sRows_len, putL_len, grpsS_n]) (sRows_get (by rw [putL_len, grpsS_n]; omega)) rfl ty9) ?_
  refine am_h rfl rfl (y_moveV rfl rfl) ?_
  refine am_h rfl rfl (y_slice_SL rfl rfl rfl rfl Tryz.underlying9 (by omega) (by omega) (by omega)) ?_
  refine am_h rfl rfl (y_addS rfl rfl rfl (by simp only [List.length_append, List.length_drop, List.length_take, List.length_cons, List.length_nil]; omega)) ?_
  refine am_h rfl rfl (y_moveS rfl rfl) ?_
  refine am_h rfl rfl (y_moveV rfl rfl) ?_
  refine am_h rfl rfl (y_indexAddr_psl rfl rfl rfl rfl (by rw [sRows_len, putL_len, grpsS_n]) slc34 (by omega) (by omega) (sRows_one _)) ?_
  refine am_h rfl rfl (y_load_pp1 (c := SL ((putL (grpsS m) o a 63).getD o2 [])) rfl rfl rfl (by rw [sRows_len, putL_len, grpsS_n]) (sRows_get (by rw [putL_len, grpsS_n]; omega)) rfl ty9) ?_
  refine am_h rfl rfl (y_moveV rfl rfl) ?_
  refine am_h rfl rfl (y_add rfl rfl rfl ⟨(by omega), (by omega)⟩) ?_
  refine am_h rfl rfl (y_slice_SL rfl rfl rfl rfl Tryz.underlying9 (by omega) (by omega) (by omega)) ?_
  refine am_h rfl rfl (y_addS rfl rfl rfl (by simp only [List.length_append, List.length_drop, List.length_take, List.length_cons, List.length_nil]; omega)) ?_
  refine am_h rfl rfl (y_indexAddr_psl rfl rfl rfl rfl (by rw [sRows_len, putL_len, grpsS_n]) slc34 (by omega) (by omega) (sRows_one _)) ?_
  refine am_w rfl rfl (opB_store (r := [SL ((putL (grpsS m) o a 63).getD o2 [])]) rfl rfl rfl rfl (by rw [sRows_len, putL_len, grpsS_n]) (sRows_get (by rw [putL_len, grpsS_n]; omega)) (cE_v rfl) ty9 (by rfl) (by rfl)) trivial ?_
  refine am_nil ?_
  refine qt_normal ?_
  refine ac_seq ?_
  refine ac_region ?_
  refine al_y rfl rfl (y_moveS rfl rfl) ?_
  refine al_y rfl rfl (y_assignS rfl rfl) ?_
  refine al_nil ?_
  refine qt_normal ?_
  refine ac_ret ?_
  exact ⟨.inr rfl, ⟨((holL m o a o2 t).map fun s => [eS s]), congrArg (fun z => some (PO.row z)) ((sRows_set (putW_eq _ _ _)).trans (sRows_pub (holL m o a o2 t))), by simp [holL, putL_len, grpsS_n], rfl⟩⟩
end Go.Av
end
