/- Itoa, Join, Split as contracts. -/
import Derived.Test.YtdjncbjfejdamaaGreatDoorExA
import Derived.Test.YtdjncbjfejdamaaGreatDoorLibS
set_option linter.unusedVariables false
set_option linter.unusedSimpArgs false
section
namespace Go.Av
open Go.Proofs Go.RowKit Go.Bv
set_option maxRecDepth 100000

def eStrs (l : List (List UInt8)) : AV := .sl (l.map fun s => [eS s])
theorem f140 (n : Int) (h : -9223372036854775808 ≤ n ∧ n ≤ 9223372036854775807) : ACall Tryz.prog GT 140 [.v (.int .i64 n)] (eS (Lib.itoa n)) := by
  refine ⟨itoaC.1, fun ok w vs hG hok hf => ?_⟩
  simp only [FitsL, Fits] at hf
  obtain ⟨u, us, rfl, ⟨rfl, _⟩, rfl⟩ := hf
  refine (itoaC.2 n w h.1 h.2 (gT w hG)).mono fun e w' ⟨he, hb⟩ => ⟨_, he, hb, by simp only [Fits]; exact ⟨trivial, rfl⟩⟩

/-- The bytes of the strings that a slice has in its cells. -/
theorem strs_cells {ok : Nat → Prop} {w : World} {b off : Nat} {l : List (List UInt8)} (h : FitsR ok w b off (l.map fun s => [eS s])) :
    ∀ (j : Nat) x, (l.map fun s => (⟨s.toArray⟩ : ByteArray))[j]? = some x → w.cell? ⟨b, off + j, none⟩ = some (.string x) := fun j x hx => by
  rw [List.getElem?_map] at hx
  cases hs : l[j]? with
  | none => rw [hs] at hx; cases hx
  | some s =>
    rw [hs] at hx
    injection hx with hx
    subst hx
    have := FitsR.get (size := 1) (i := j) (r := [eS s]) h (fun r hr => by obtain ⟨s, _, rfl⟩ := List.mem_map.1 hr; rfl) (by rw [List.getElem?_map, hs]; rfl)
    simp only [FitsC, Fits] at this
    obtain ⟨⟨u, k1, _, k3, _⟩, _⟩ := this
    rw [k3] at k1
    simpa using k1

theorem f167 (l : List (List UInt8)) (sep : List UInt8) (hn : l.length ≤ 140737488355328) (hl : (Lib.join l sep).length ≤ 140737488355328) : ACall Tryz.prog GT 167 [eStrs l, eS sep] (eS (Lib.join l sep)) := by
  refine ⟨joinC.1, fun ok w vs hG hok hf => ?_⟩
  simp only [FitsL, eStrs, Fits] at hf
  obtain ⟨u, us, rfl, ⟨a, c, size, rfl, h1, h2, h3, h4⟩, u2, us2, rfl, ⟨rfl, _⟩, rfl⟩ := hf
  cases l with
  | nil =>
    refine (joinC.2.1 a c ⟨sep.toArray⟩ w).mono fun e w' ⟨he, hb⟩ => ⟨_, he, hb, ?_⟩
    simp only [Fits]
    exact ⟨by simp [Lib.join], rfl⟩
  | cons s l =>
    obtain ⟨b, off, rfl, hb, hr⟩ := h4 (by simp)
    have hc := strs_cells hr
    have hbk : b < w.heap.size := hok b hb
    have e1 : ((s :: l).map fun s => (⟨s.toArray⟩ : ByteArray)).map (·.data.toList) = s :: l := by rw [List.map_map]; exact (List.map_congr_left fun a _ => by simp).trans (List.map_id _)
    have := joinC.2.2 b off c ((s :: l).map fun s => (⟨s.toArray⟩ : ByteArray)) ⟨sep.toArray⟩ w hc hbk (by simpa using hn) (by simpa using h1) (by rw [e1]; simpa using hl)
    rw [e1, List.length_map] at this
    simp only [List.length_map] at *
    refine this.mono fun e w' ⟨he, hb⟩ => ⟨_, he, hb, ?_⟩
    simp only [Fits]
    exact ⟨by simp, rfl⟩

/-- A string, cut at each byte c. -/
def splitL (c : UInt8) : List UInt8 → List (List UInt8)
  | [] => [[]]
  | x :: xs => if x = c then [] :: splitL c xs else match splitL c xs with
    | [] => [[x]]
    | p :: ps => (x :: p) :: ps
theorem splitL_ne (c : UInt8) : ∀ l, splitL c l ≠ []
  | [] => by simp [splitL]
  | x :: xs => by
    simp only [splitL]
    split
    · simp
    · split <;> simp
theorem splitK_eq (c : UInt8) : ∀ (l : List UInt8), Lib.splitK [c] 0 (Lib.count l [c]) l = splitL c l
  | [] => by rw [Lib.count_miss (by simp [Lib.index])]; rfl
  | b :: l => by
    by_cases h : b = c
    · subst h
      have hix : Lib.index (b :: l) [b] = ((0 : Nat) : Int) := by rw [Lib.index]; simp [List.isPrefixOf]
      rw [Lib.count_cons_eq, Nat.add_comm, Lib.splitK, if_neg (by rw [hix]; decide), hix]
      simp only [splitL, if_true]
      rw [← splitK_eq b l]
      simp
    · have hp : ([c] : List UInt8).isPrefixOf (b :: l) = false := by simp [List.isPrefixOf, Ne.symm h]
      have hix : Lib.index (b :: l) [c] = if Lib.index l [c] == -1 then -1 else Lib.index l [c] + 1 := by rw [Lib.index, hp]; simp
      have ih := splitK_eq c l
      rw [Lib.count_cons_ne b c l h]
      simp only [splitL, if_neg h]
      rw [← ih]
      cases hk : Lib.count l [c] with
      | zero => rfl
      | succ k =>
        by_cases hm : Lib.index l [c] = -1
        · rw [Lib.count_miss hm] at hk; cases hk
        · have hge := Lib.index_ge l [c]
          obtain ⟨j, hj⟩ : ∃ j : Nat, Lib.index l [c] = j := ⟨(Lib.index l [c]).toNat, by omega⟩
          have hix' : Lib.index (b :: l) [c] = ((j + 1 : Nat) : Int) := by rw [hix, if_neg (fun e => hm (beq_iff_eq.1 e)), hj]; omega
          have e1 : ¬ ((Lib.index (b :: l) [c] == -1) = true) := fun e => by have := beq_iff_eq.1 e; omega
          have e2 : ¬ ((Lib.index l [c] == -1) = true) := fun e => hm (beq_iff_eq.1 e)
          simp only [Lib.splitK]
          rw [if_neg e1, if_neg e2, hix', hj]
          simp

theorem f142 (s : List UInt8) (c : UInt8) (hs : s.length < 4294967281) : ACall Tryz.prog GT 142 [eS s, eS [c]] (eStrs (splitL c s)) := by
  refine ⟨⟨_, Tryz.func142, by kernel_rfl, rfl⟩, fun ok w vs hG hok hf => ?_⟩
  simp only [FitsL, Fits] at hf
  obtain ⟨u, us, rfl, ⟨rfl, _⟩, u2, us2, rfl, ⟨rfl, _⟩, rfl⟩ := hf
  obtain ⟨_, m, hm⟩ := hG
  have hcall := Any.strings_Split Tryz.lays146 (by kernel_rfl) ⟨s.toArray⟩ ⟨[c].toArray⟩ m w (by simpa [ByteArray.size] using hs) hm (by simp [ByteArray.size])
  refine hcall.mono fun e w' ⟨he, hw⟩ => ⟨_, he, by rw [hw]; exact below_alloc w _, ?_⟩
  have hall := Lib.splitB_all ⟨[c].toArray⟩ (by simp [ByteArray.size]) 0 _ ⟨s.toArray⟩ rfl
  have hdat := Lib.splitB_data ⟨[c].toArray⟩ 0 (Lib.countB ⟨s.toArray⟩ ⟨[c].toArray⟩) ⟨s.toArray⟩
  have hk : Lib.splitK [c] 0 (Lib.countB ⟨s.toArray⟩ ⟨[c].toArray⟩) s = splitL c s := by
    show Lib.splitK [c] 0 (Lib.count (ByteArray.mk s.toArray).data.toList (ByteArray.mk [c].toArray).data.toList) s = _
    simpa using splitK_eq c s
  simp only at hdat
  rw [hk] at hdat
  obtain ⟨ps, hps⟩ : ∃ ps, Lib.splitB ⟨[c].toArray⟩ 0 (Lib.countB ⟨s.toArray⟩ ⟨[c].toArray⟩) ⟨s.toArray⟩ = ps := ⟨_, rfl⟩
  rw [hps] at hall hdat hw
  rw [← hall]
  have hlen : (splitL c s).length = ps.length := by rw [← hdat]; simp
  have hle : ps.length ≤ s.length + 1 := by
    have := Lib.countB_le ⟨[c].toArray⟩ (by simp [ByteArray.size]) s.length ⟨s.toArray⟩ (by simp [ByteArray.size])
    simp [ByteArray.size] at this
    omega
  simp only [eStrs, Fits]
  refine ⟨some ⟨w.heap.size, 0, none⟩, ps.length, 1, by rw [List.length_map, hlen], by simp [hlen], by unfold maxLen; omega, fun r hr => by obtain ⟨s, _, rfl⟩ := List.mem_map.1 hr; rfl, fun _ => ⟨w.heap.size, 0, rfl, .inr ⟨Nat.le_refl _, by rw [hw]; simp⟩, ?_⟩⟩
  refine FitsR.of_get (size := 1) (fun r hr => by obtain ⟨s, _, rfl⟩ := List.mem_map.1 hr; rfl) fun i r hr => ?_
  rw [List.getElem?_map] at hr
  cases hi : (splitL c s)[i]? with
  | none => rw [hi] at hr; cases hr
  | some p =>
    rw [hi] at hr
    injection hr with hr
    subst hr
    rw [← hdat, List.getElem?_map] at hi
    cases hb : ps[i]? with
    | none => rw [hb] at hi; cases hi
    | some q =>
      rw [hb] at hi
      injection hi with hi
      simp only [FitsC, Fits]
      refine ⟨⟨.string q, ?_, rfl, ?_, rfl⟩, trivial⟩
      · rw [hw]
        have := heap_alloc_new w (.cells (ps.map Value.string).toArray (Tryz.lays146_ren.t 9))
        simp only [World.cell?, this]
        simp [hb]
      · rw [← hi]
end Go.Av
end
