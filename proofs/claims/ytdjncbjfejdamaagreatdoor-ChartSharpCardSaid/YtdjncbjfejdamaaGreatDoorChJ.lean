/- Stations that are turned about, or exchanged, or one more: what it does to contradictions and bounds. -/
import Derived.Test.YtdjncbjfejdamaaGreatDoorChI
set_option linter.unusedVariables false
set_option linter.unusedSimpArgs false
section
namespace Go.Av
open Go.Proofs
theorem loOf_perm {w s p : Int} {l l' : List Stn} (h : l.Perm l') : loOf w s p l = loOf w s p l' := h.foldl_eq' (fun x _ y _ z => by omega) _
theorem hiOf_perm {w s p : Int} {l l' : List Stn} (h : l.Perm l') : hiOf w s p l = hiOf w s p l' := h.foldl_eq' (fun x _ y _ z => by omega) _
theorem absd_comm (a b : Int) : absd a b = absd b a := by unfold absd; omega
theorem dist_comm (w a b : Int) : dist w a b = dist w b a := by unfold dist; rw [absd_comm, absd_comm (a % w)]
theorem apart_comm (m : Mp) (a b : Stn) : apartB m a b = apartB m b a := by
  unfold apartB; rw [dist_comm m.wide a.pt b.pt, Bool.or_comm]
theorem clash_none_iff {m : Mp} : clashOf m = none ↔ m.st.Pairwise (fun a b => apartB m a b = false) := by
  rw [List.pairwise_iff_getElem]
  constructor
  · intro h i j hi hj hij
    rw [← pairB_at hi hj]; exact firstPair_all h i j hij hj
  · intro h
    exact firstPair_none fun a ha b hb hab => by rw [pairB_at ha hb]; exact h a b ha hb hab
def withS (m : Mp) (l : List Stn) : Mp := { m with st := l }
theorem clash_perm {m : Mp} {l : List Stn} (h : l.Perm m.st) : clashOf (withS m l) = none ↔ clashOf m = none := by
  rw [clash_none_iff, clash_none_iff]
  exact h.pairwise_iff (fun {x y} hxy => by rw [apart_comm]; exact hxy)
theorem okM_perm {m : Mp} (hm : okM m) {l : List Stn} (h : l.Perm m.st) : okM (withS m l) := by
  obtain ⟨m1, m2, m3, m4, m5, m6, m7, m8⟩ := hm
  exact ⟨m1, m2, m3, m4, m5, m6, by show l.length ≤ 12; rw [h.length_eq]; exact m7, fun s hs => m8 s (h.mem_iff.1 hs)⟩
theorem bds_perm {m : Mp} {l : List Stn} (h : l.Perm m.st) : bds (withS m l) = bds m := by
  unfold bds npt withS
  simp only [loOf_perm h, hiOf_perm h]
theorem drawF_perm {m : Mp} {l : List Stn} (h : l.Perm m.st) : drawF (withS m l) = drawF m := by
  unfold drawF drawL npt withS
  simp only [loOf_perm h, hiOf_perm h]
theorem swap_perm (L : List Stn) {i j : Nat} (hi : i < L.length) (hj : j < L.length) : ((L.set i L[j]).set j L[i]).Perm L := List.set_set_perm hi hj
theorem turn_perm (l : List Stn) (n : Nat) : (l.drop n ++ l.take n).Perm l := by
  have := (List.perm_append_comm (l₁ := l.drop n) (l₂ := l.take n))
  rwa [List.take_append_drop] at this
theorem lo_more {w s p : Int} {l : List Stn} {x : Stn} : loOf w s p l ≤ loOf w s p (l ++ [x]) := by unfold loOf; rw [List.foldl_append]; simp only [List.foldl_cons, List.foldl_nil]; omega
theorem hi_more {w s p : Int} {l : List Stn} {x : Stn} : hiOf w s p (l ++ [x]) ≤ hiOf w s p l := by unfold hiOf; rw [List.foldl_append]; simp only [List.foldl_cons, List.foldl_nil]; omega
theorem clash_more {m : Mp} {x : Stn} (h : clashOf (withS m (m.st ++ [x])) = none) : clashOf m = none := by
  rw [clash_none_iff] at h ⊢
  exact (List.pairwise_append.1 h).1
end Go.Av
end
