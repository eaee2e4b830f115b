
import Derived.Test.YtaphehlgijlfeaaGreatDoorPlatF
import Derived.Lib.ConvBytes
set_option linter.unusedVariables false
set_option linter.unusedSimpArgs false
section
namespace Go.Av
open Go.RowKit
def ztq (b : UInt8) : List EV := [.pub (.v (.int .u8 (b.toNat : Int)))]
section
variable {P : Program} {G : Glob} {st : ASt} {o : Oper}
end
section
variable {P : Program} {G : Glob} {fr : Nat -> EV} {mem : List PO} {o : Oper}
theorem ztJ {S T e : TypeId} {x : Operand} {k n : Nat} {l : List UInt8} (ho : o.op = .convert S T x) (hx : evO fr x = .psl k n) (hm : mem[k]? = some (.row (l.map ztq))) (hn : l.length = n) (hs : P.underlying S = some (.slice e)) (he : P.underlying e = some (.int .u8)) (hd : P.underlying T = some .string) :
  OpY P G fr mem o (SL l) :=
 jI fun ok bs w a _ hmo hf => by
  obtain ⟨B, hmo⟩ := hmo
  have h := hf x (by simp [ho, Op.operands])
  rw [hx] at h
  simp only [FitsE] at h
  obtain ⟨b, hb, h⟩ := h
  have e1 := (h _ hm).2 (by simpa using hn)
  have hr := hmo.row k b _ hb hm
  refine ⟨.string ⟨l.toArray⟩, ?_, vJ rfl⟩
  cases hg : b.blk with
  | none =>
   have h0 := hr.nil hg
   have h1 : l = [] := by simpa using h0
   subst h1
   simp only [PB.sl, hg] at e1
   simp only [execOp, ho, e1]
   simp [run_convert_bytes_nil (w := w) S e hs he 0 0 T hd]; rfl
  | some g =>
   obtain ⟨cur, hc, h1, h2, h3, h4⟩ := hr.blk g hg
   simp only [PB.sl, hg] at e1
   have hsize : ∀ r ∈ l.map ztq, r.length = b.size := hr.size
   have hpos := hr.pos g hg
   have hb1 : b.size = 1 := by
    cases l with
    | nil => simp at hpos
    | cons c cs => exact (hsize (ztq c) (by simp)).symm
   have hcell : ∀ i, i < n -> w.cell? ⟨g, 0 + i, none⟩ = some (.int .u8 ((l.map fun c => (c.toNat : Int)).getD i 0)) := fun i hi => by
    have hil : i < l.length := by omega
    obtain ⟨u, c1, _, c3⟩ := h4 i 0 (ztq l[i]) (.pub (.v (.int .u8 (l[i].toNat : Int)))) (by simp [hil]) (by simp [ztq])
    simp only [FitsE, Fits] at c3
    rw [cell_of_row w g _ cur _ _ hc, Nat.zero_add]
    rw [hb1, Nat.mul_one, Nat.add_zero, c3.1] at c1
    rw [c1]; simp [List.getD, hil]
   have hconv := run_convert_bytes_arg (P := P) w S e hs he g 0 n b.cap (l.map fun c => (c.toNat : Int)) (by simpa using hn) hcell T hd
   have hstr : strOfNums (l.map fun c => (c.toNat : Int)) = ⟨l.toArray⟩ := by
    unfold strOfNums
    rw [List.map_map]
    congr 2
    refine (List.map_congr_left fun c _ => ?_).trans (List.map_id _)
    simp
   rw [hstr] at hconv
   simp only [execOp, ho, e1, Sem.run_bind, hconv, Result.andThen_ok]; rfl
end
end Go.Av
end
