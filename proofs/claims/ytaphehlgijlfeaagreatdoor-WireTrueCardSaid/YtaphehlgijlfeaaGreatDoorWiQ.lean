
import Derived.Test.YtaphehlgijlfeaaGreatDoorWiO
set_option linter.unusedVariables false
set_option linter.unusedSimpArgs false
section
namespace Go.Av
open Go.Proofs
theorem zx8 (m : List Int) : ∀ w ∈ jQ m, w.length = 5 := fun w hw => by
 obtain ⟨g, _, rfl⟩ := List.mem_map.1 hw; rfl
theorem zyF {m : List Int} {j q : Nat} (hj : j <= m.length) (hq : q < 5) : chF (jQ m) j q = 48 + dg m q j := by
 have hl : j < (vV m).length := by simp [vV]; omega
 unfold chF
 have e : (jQ m).getD j [] = ((vV m)[j]).chs := by
  simp only [jQ, List.getD_eq_getElem?_getD, List.getElem?_map, List.getElem?_eq_getElem hl]; rfl
 rw [e, List.getD_eq_getElem?_getD, zBO hq, Option.getD_some, zgs hl hq]
 exact zhE (zB0 m q j)
theorem vG (m : List Int) : (jQ m).length = m.length + 1 := by simp [jQ, vV]
theorem zC1 {c : Cod} {l : List (List UInt8)} (h1 : l.length = c.fields.length + 1) (h5 : ∀ w ∈ l, w.length = 5) (hch : ∀ j q, j < l.length -> q < 5 -> xq (chF l j q) = true) (hh : hlN l <= 2) : jX c l = true := by
 unfold jX
 simp only [zLa, List.all_eq_true, decide_eq_true_eq, beq_iff_eq]
 refine ⟨fun w hw => ?_, by omega, hh⟩
 obtain ⟨j, hj, rfl⟩ := List.getElem_of_mem hw
 unfold ofB
 simp only [zLa, List.all_eq_true, decide_eq_true_eq]
 refine ⟨fun b hb => ?_, h5 _ hw⟩
 obtain ⟨q, hq, rfl⟩ := List.getElem_of_mem hb
 have hq5 : q < 5 := by have := h5 _ hw; omega
 have := hch j q hj hq5
 have e : chF l j q = (l[j][q].toNat : Int) := by
  unfold chF
  simp [hj, hq]
 rwa [e] at this
theorem zC5 : ∀ (x y : List (List UInt8)), hlN (x ++ y) = hlN x + hlN y := fun x y => by
 have key : ∀ (y : List (List UInt8)) (t : Int), y.foldl (fun s w => s + hl1 w) t = t + hlN y := by
  intro y
  induction y with
  | nil => intro t; simp [hlN]
  | cons a y ih => intro t; unfold hlN; simp only [List.foldl_cons]; rw [ih, ih]; omega
 unfold hlN; rw [List.foldl_append, key]; rfl
theorem zCS {g : G5} (h : g.ok) : hl1 g.chs = 0 := by
 unfold G5.ok at h
 have z : ∀ x : Int, 0 <= x /\ x <= 9 -> ¬ (chD x).toNat = 63 := fun x hx => by have := zhE hx; omega
 simp [G5.chs, hl1, z _ h.1, z _ h.2.1, z _ h.2.2.1, z _ h.2.2.2.1, z _ h.2.2.2.2]
theorem zB9 (m : List Int) : hlN (jQ m) = 0 := by
 have key : ∀ l : List G5, (∀ g ∈ l, g.ok) -> hlN (l.map G5.chs) = 0 := by
  intro l
  induction l with
  | nil => intro _; rfl
  | cons g l ih =>
   intro h
   rw [List.map_cons, show G5.chs g :: l.map G5.chs = [G5.chs g] ++ l.map G5.chs from rfl, zC5, ih (fun x hx => h x (List.mem_cons_of_mem _ hx))]
   simp [hlN, zCS (h g (List.mem_cons_self ..))]
 exact key _ zpI
theorem zCW {m : List Int} {q j : Nat} : xq (48 + dg m q j) = true := by
 have := zB0 m q j
 simp only [xq, zl8, zf4, Bool.or_eq_true, zLa, decide_eq_true_eq]; omega
section
variable {c : Cod} {m : List Int} {o a o2 t : Nat} (hc : jA c = true) (hm : wS c m = true) (ho : o <= m.length) (ha : a < 5) (ho2 : o2 <= m.length) (ht : t < 5)
include ho ha ho2 ht in
include hm ho ha ho2 ht in
end
theorem zEt (x : Int × Int) : 0 <= wrN x /\ wrN x <= 1 := by unfold wrN; split <;> omega
theorem zBt (m : List Int) (g : List (List UInt8)) : ∀ (S : List (Nat × Nat)) (s : Nat × Nat), s ∈ S -> wrN (rcv m g s) <= zc8 m g S := by
 intro S
 induction S with
 | nil => intro s h; cases h
 | cons x S ih =>
  intro s h
  have e : zc8 m g (x :: S) = wrN (rcv m g x) + zc8 m g S := rfl
  have h1 := zlw m g S
  have h2 := zEt (rcv m g x)
  rw [e]
  rcases List.mem_cons.1 h with rfl | h
  ·
   omega
  ·
   have := ih s h; omega
theorem zBa (m : List Int) (g : List (List UInt8)) : ∀ (S : List (Nat × Nat)), (∀ s ∈ S, wrN (rcv m g s) = 0) -> zc8 m g S = 0 := by
 intro S
 induction S with
 | nil => intro _; rfl
 | cons x S ih =>
  intro h
  have e : zc8 m g (x :: S) = wrN (rcv m g x) + zc8 m g S := rfl
  rw [e, h x (List.mem_cons_self ..), ih fun s hs => h s (List.mem_cons_of_mem _ hs)]; rfl
theorem zBX {c : Cod} {m : List Int} {g : List (List UInt8)} (hc : jA c = true) (hm : wS c m = true) (hg : jX c g = true) : zmV (mst c 0) m g = true ↔ ∀ s ∈ grid c.fields.length, rgt (chF g s.2 s.1) (dg m s.1 s.2) = true := by
 have hcb := wI hc
 have e := zgm (c := mst c 0) (m := m) (g := g) (zy7 hc (by omega) hcb.2.1) hm hg
 rw [← e]
 simp only [zLa, decide_eq_true_eq, List.all_eq_true]
 constructor
 ·
  rintro ⟨_, h2⟩ s hs
  have h3 := zBt m g _ s hs
  have h4 : (mst c 0).most = 0 := rfl
  have h5 : zc8 m g (grid c.fields.length) <= 0 := by rw [h4] at h2; have : (mst c 0).fields.length = c.fields.length := rfl; rw [this] at h2; omega
  cases hr : rgt (chF g s.2 s.1) (dg m s.1 s.2) with
  | true => rfl
  | false =>
   have : wrN (rcv m g s) = 1 := by unfold wrN rcv; simp only [hr]; rfl
   omega
 ·
  intro h
  have z : ∀ s ∈ grid c.fields.length, wrN (rcv m g s) = 0 := fun s hs => by unfold wrN rcv; simp only [h s hs, if_true]
  refine ⟨fun s hs => by unfold okP rcv; rw [h s hs]; rfl, ?_⟩
  have := zBa m g _ z
  have h4 : (mst c 0).most = 0 := rfl
  have h6 : (mst c 0).fields.length = c.fields.length := rfl
  rw [h4, h6, this]; omega
section
variable {c : Cod} {m : List Int} {o a o2 t : Nat} (hc : jA c = true) (hm : wS c m = true) (ho : o <= m.length) (ha : a < 5) (ho2 : o2 <= m.length) (ht : t < 5)
include hc hm ho ha ho2 ht
end
end Go.Av
end
