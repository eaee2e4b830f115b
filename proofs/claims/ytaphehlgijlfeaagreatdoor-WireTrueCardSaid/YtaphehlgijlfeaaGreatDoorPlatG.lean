
import Derived.Test.YtaphehlgijlfeaaGreatDoorPlatF
import Derived.Lib.ConvBytes
set_option linter.unusedVariables false
set_option linter.unusedSimpArgs false
section
namespace Go.Av
open Go.RowKit
def ztq (b : UInt8) : List EV := [.pub (.v (.int .u8 (b.toNat : Int)))]
section
variable {P : Program} {G : Glob} {st : ASt} {o : Oper}
theorem ztW {S T e : TypeId} {x : Operand} {l : List UInt8} (ho : o.op = .convert S T x) (hd : vC o st.n = true) (hx : evO st.fr x = SL l) (hs : P.underlying S = some .string) (hT : P.underlying T = some (.slice e)) (he : P.underlying e = some (.int .u8))
  (hl : 0 < l.length) (hm : l.length <= 1000000) : OpM P G st o ⟨st.n, jr st.fr o.dst (.psl st.mem.length l.length), st.mem ++ [.row (l.map ztq)]⟩ := by
 intro w0 ok0 a w hG hok hsit K Q hK
 obtain ⟨h0, h1', h2, ok, bs, h3, h4, h5, h6⟩ := hsit
 have ea : a.eval x = .string ⟨l.toArray⟩ := by
  have hse := jd (fr := st.fr) (a := a) (x := x) fun t _ => h6.1 t
  rw [hx] at hse
  simp only [FitsE, Fits] at hse
  exact hse.1
 have hsz : (⟨l.toArray⟩ : ByteArray).size = l.length := by simp [ByteArray.size]
 have hconv := Go.Lib.run_convert_string_bytes (P := P) w S T e ⟨l.toArray⟩ hs hT he
 have hrun : (execOp a.eval o).run P w = .ok (.value (.slice (some ⟨w.heap.size, 0, none⟩) l.length (grownCap w l.length 0 e))) (Go.Lib.bytesWorld w e ⟨l.toArray⟩) := by
  simp only [execOp, ho, ea, Sem.run_bind, hconv, Result.andThen_ok, hsz]; rfl
 have hge := grownCap_ge w l.length 0 e
 have hle := grownCap_le_maxLen w l.length 0 e (by unfold maxLen; omega)
 have hbel : Below w.heap.size w (Go.Lib.bytesWorld w e ⟨l.toArray⟩) := ⟨rfl, rfl, rfl, by rw [Go.Lib.bytesWorld_size]; omega, fun k hk => Go.Lib.bytesWorld_at_old w e _ k hk⟩
 have hcs : (Go.Lib.bytesCells w e ⟨l.toArray⟩).size = grownCap w l.length 0 e := by
  simp only [Go.Lib.bytesCells, Array.size_append, Array.size_map, Array.size_replicate, List.size_toArray, hsz]; omega
 have hat := Go.Lib.bytesWorld_at_new w e ⟨l.toArray⟩
 refine jT hrun (hK _ _ (Sit.push (b := ⟨some w.heap.size, grownCap w l.length 0 e, ⟨e, true⟩, 1⟩) h0 h1' h2 h3 h4 h5 h6 hbel ⟨fun r hr => ?_, fun hnn => (by simp at hnn), fun _ _ => (by simpa using hl), fun g hg => ?_⟩ (fun g hg => by simp at hg; omega) ?_ (qM hd)))
 ·
  obtain ⟨b, _, rfl⟩ := List.mem_map.1 hr
  rfl
 ·
  simp at hg
  subst hg
  refine ⟨_, hat, by rw [hcs]; simp, by simpa using hge, hle, fun i j r y hr hy => ?_⟩
  rw [List.getElem?_map, Option.map_eq_some_iff] at hr
  obtain ⟨b, hb, rfl⟩ := hr
  have hj : j = 0 := by have := (zLg hy).1; simp [ztq] at this; exact this
  subst hj
  simp [ztq] at hy
  subst hy
  have hil := (zLg hb).1
  refine ⟨.int .u8 (b.toNat : Int), ?_, rfl, vJ rfl⟩
  have hbi : l[i] = b := (zLg hb).2
  simp only [Nat.mul_one, Nat.add_zero, Go.Lib.bytesCells]
  rw [Array.getElem?_append_left (by simpa using hil)]
  simp [hil, hbi]
 ·
  simp only [FitsE]
  refine ⟨⟨some w.heap.size, grownCap w l.length 0 e, ⟨e, true⟩, 1⟩, by rw [← h5.len]; simp, fun rows hr => ?_⟩
  simp at hr
  subst hr
  exact ⟨by simp, fun _ => by simp [PB.sl]⟩
end
section
variable {P : Program} {G : Glob} {fr : Nat -> EV} {mem : List PO} {o : Oper}
theorem ztJ {S T e : TypeId} {x : Operand} {k n : Nat} {l : List UInt8} (ho : o.op = .convert S T x) (hx : evO fr x = .psl k n) (hm : mem[k]? = some (.row (l.map ztq))) (hn : l.length = n) (hs : P.underlying S = some (.slice e)) (he : P.underlying e = some (.int .u8)) (hd : P.underlying T = some .string) :
  OpY P G fr mem o (SL l) :=
 jI fun ok bs w a _ hmo hf => by
  obtain ⟨B, hmo⟩ := hmo
  have h := hf x (by simp [ho, Op.operands])
  rw [hx] at h
  simp only [FitsE] at h
  obtain ⟨b, hb, h⟩ := h
  have e1 := (h _ hm).2 (by simpa using hn)
  have hr := hmo.row k b _ hb hm
  refine ⟨.string ⟨l.toArray⟩, ?_, vJ rfl⟩
  cases hg : b.blk with
  | none =>
   have h0 := hr.nil hg
   have h1 : l = [] := by simpa using h0
   subst h1
   simp only [PB.sl, hg] at e1
   simp only [execOp, ho, e1]
   simp [run_convert_bytes_nil (w := w) S e hs he 0 0 T hd]; rfl
  | some g =>
   obtain ⟨cur, hc, h1, h2, h3, h4⟩ := hr.blk g hg
   simp only [PB.sl, hg] at e1
   have hsize : ∀ r ∈ l.map ztq, r.length = b.size := hr.size
   have hpos := hr.pos g hg
   have hb1 : b.size = 1 := by
    cases l with
    | nil => simp at hpos
    | cons c cs => exact (hsize (ztq c) (by simp)).symm
   have hcell : ∀ i, i < n -> w.cell? ⟨g, 0 + i, none⟩ = some (.int .u8 ((l.map fun c => (c.toNat : Int)).getD i 0)) := fun i hi => by
    have hil : i < l.length := by omega
    obtain ⟨u, c1, _, c3⟩ := h4 i 0 (ztq l[i]) (.pub (.v (.int .u8 (l[i].toNat : Int)))) (by simp [hil]) (by simp [ztq])
    simp only [FitsE, Fits] at c3
    rw [cell_of_row w g _ cur _ _ hc, Nat.zero_add]
    rw [hb1, Nat.mul_one, Nat.add_zero, c3.1] at c1
    rw [c1]; simp [List.getD, hil]
   have hconv := run_convert_bytes_arg (P := P) w S e hs he g 0 n b.cap (l.map fun c => (c.toNat : Int)) (by simpa using hn) hcell T hd
   have hstr : strOfNums (l.map fun c => (c.toNat : Int)) = ⟨l.toArray⟩ := by
    unfold strOfNums
    rw [List.map_map]
    congr 2
    refine (List.map_congr_left fun c _ => ?_).trans (List.map_id _)
    simp
   rw [hstr] at hconv
   simp only [execOp, ho, e1, Sem.run_bind, hconv, Result.andThen_ok]; rfl
end
end Go.Av
end
