
import Derived.Test.YtaphehlgijlfeaaGreatDoorPlatF
set_option linter.unusedVariables false
set_option linter.unusedSimpArgs false
section
namespace Go.Av
open Go.RowKit
section
variable {P : Program} {G : Glob} {fr : Nat -> EV} {mem : List PO} {o : Oper}
theorem zDy {T : TypeId} {x z y y2 : Operand} {rows : List (List AV)} {l h : Int} {size : Nat} (ho : o.op = .slice T x (some z) (some y) (some y2)) (hx : evO fr x = .pub (.sl rows))
  (hz : evO fr z = I l) (hy : evO fr y = I h) (hy2 : evO fr y2 = I h)
  (ht : zau P T size = true) (hsz : ∀ q ∈ rows, q.length = size) (h0 : 0 <= l) (h1 : l < h) (h2 : h <= (rows.length : Int)) : OpY P G fr mem o (.pub (.sl ((rows.take h.toNat).drop l.toNat))) :=
 jI fun ok bs w a _ _ hfit => by
  have hxx := hfit x (by simp [ho, Op.operands])
  rw [hx] at hxx
  simp only [FitsE, Fits] at hxx
  obtain ⟨ad, c, size', e, h3, h4, h5, h6⟩ := hxx
  obtain ⟨el, he, hs⟩ := zjU ht
  have hlen : ((rows.take h.toNat).drop l.toNat).length = h.toNat - l.toNat := by simp; omega
  have hb1 : (Instr.sliceBounds true rows.length c ((some z).map a.eval) ((some y).map a.eval) ((some y2).map a.eval)).run P w = .ok (l.toNat, h.toNat, h.toNat) w := by
   have e1 : a.eval z = .int .i64 l := xR (hfit z (by simp [ho, Op.operands])) hz
   have e2 : a.eval y = .int .i64 h := xR (hfit y (by simp [ho, Op.operands])) hy
   have e3 : a.eval y2 = .int .i64 h := xR (hfit y2 (by simp [ho, Op.operands])) hy2
   have hl1 : h <= (c : Int) := by omega
   have hh0 : 0 <= h := by omega
   have hlh : l <= h := by omega
   have hmm : max h 0 = h := by omega
   simp [Instr.sliceBounds, e1, e2, e3, Instr.sliceBound, asIntOf, h0, hh0, hl1, hmm, hlh]
  refine ⟨.slice (if h.toNat = l.toNat then ad else ad.map (·.add (l.toNat * size))) (h.toNat - l.toNat) (h.toNat - l.toNat), ?_, ?_⟩
  ·
   simp only [execOp, ho, e, Instr.sliceAt, Instr.slice, Sem.run_bind, run_underlying he, Result.andThen_ok, hb1, hs]
   rfl
  ·
   simp only [FitsE, Fits]
   refine ⟨_, _, size, by rw [hlen], by rw [hlen]; omega, by omega, fun r hr => hsz r (List.mem_of_mem_take (List.mem_of_mem_drop hr)), fun hpos => ?_⟩
   rw [hlen] at hpos
   obtain ⟨b, off, rfl, hb, hfr⟩ := h6 (by omega)
   rw [if_neg (by omega)]
   refine ⟨b, off + l.toNat * size, by simp [Addr.add_lit], hb, FitsR.of_get (size := size) (fun r hr => hsz r (List.mem_of_mem_take (List.mem_of_mem_drop hr))) fun i r hr => ?_⟩
   rw [List.getElem?_drop, List.getElem?_take] at hr
   split at hr
   ·
    have := hfr.get hsz hr
    rwa [show off + l.toNat * size + i * size = off + (l.toNat + i) * size from by rw [Nat.add_mul]; omega]
   ·
    cases hr
end
end Go.Av
end
