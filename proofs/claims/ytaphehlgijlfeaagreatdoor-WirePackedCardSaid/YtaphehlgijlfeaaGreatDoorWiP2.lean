
import Derived.Test.YtaphehlgijlfeaaGreatDoorWiP1
import Derived.Test.YtaphehlgijlfeaaGreatDoorPlatQ
set_option linter.unusedVariables false
set_option linter.unusedSimpArgs false
section
namespace Go.Av
open Go.Proofs
set_option maxRecDepth 100000
set_option maxHeartbeats 1000000
variable {G : Glob}
theorem zuX : fldIs Tryz.prog 169 1 1 = true := by kernel_rfl
theorem zwR : tyIs Tryz.prog 169 true 2 = true := by kernel_rfl
theorem zxj : fldIs Tryz.prog 169 0 0 = true := by kernel_rfl
theorem zBE : tyIs Tryz.prog 63 false 1 = true := by kernel_rfl
section
variable {fr : Nat -> EV} {mem : List PO} {o : Oper} {st : ASt}
theorem ob1 {l : Nat} {x : Operand} {s : List UInt8} (ho : o.op = .buildSlice 34 1 #[(0, x)]) (hx : evO fr x = SL s) (hml : mem[l]? = some (.row [])) :
  ∀ mm : List PO, mm[l]? = mem[l]? -> True -> OpB Tryz.prog G fr mm o (.psl l 1) (mm.set l (.row [[SL s]])) /\ True :=
 zx9 (rows := [[SL s]]) (qs := [(0, [SL s])]) (size := 1) ho Tryz.underlying34 ti9 rfl (by decide) rfl (by decide) (fun N fr2 mm he => ⟨_, _, rfl, jF ((he x (by simp [ho, Op.operands])).trans hx), rfl⟩) rfl (by simp [SL, eS]) rfl (by decide) (by simp) hml
end
theorem pk_len {bk : List Ent} {m : List Int} (k : Nat) (hl : m.length <= 1000) : (zuE bk (m.drop k)).length <= 1000 := by
 have := zvA bk (m.drop k)
 rw [List.length_drop] at this; omega
theorem zvB (l : LS) : ∀ r ∈ (l.map fun s => [eS s]).map (·.map EV.pub), r.length = 1 := by simp
theorem zzk {bk : List Ent} {x y : Int} (h : zvo bk x y = none) : bk.any (fun e : Ent => e.first == x && e.second == y) = false := by
 unfold zvo at h
 rw [List.find?_eq_none] at h
 rw [List.any_eq_false]; exact h
theorem zAm {bk : List Ent} {x y : Int} {q : Nat} (h0 : (bk.take q).any (fun e : Ent => e.first == x && e.second == y) = false) (h : q < bk.length) (h1 : (fun e : Ent => e.first == x && e.second == y) bk[q] = true) : zvo bk x y = some bk[q] := by
 unfold zvo
 rw [List.find?_eq_some_iff_getElem]
 refine ⟨h1, q, h, rfl, fun j hj => ?_⟩
 rw [List.any_eq_false] at h0
 have := h0 bk[j] (by rw [List.mem_take_iff_getElem]; exact ⟨j, by omega, rfl⟩)
 rw [Bool.not_eq_true'] ; exact Bool.eq_false_iff.2 this
end Go.Av
end
section
namespace Go.Av
open Go.Proofs
set_option maxRecDepth 100000
set_option maxHeartbeats 1000000
variable {G : Glob}
theorem zA1 : zh8 Tryz.prog 203 1 [.nilFunc, .nilFunc] := ⟨_, _, Tryz.t202, Tryz.underlying203, by kernel_rfl, by kernel_rfl, by kernel_rfl⟩
theorem zxf : zgU Tryz.prog 203 2 1 = true := by kernel_rfl
theorem zyL : tyIs Tryz.prog 202 false 1 = true := by kernel_rfl
theorem zzX : Tryz.prog.info? 34 = some Tryz.t34 := by kernel_rfl
end Go.Av
end
