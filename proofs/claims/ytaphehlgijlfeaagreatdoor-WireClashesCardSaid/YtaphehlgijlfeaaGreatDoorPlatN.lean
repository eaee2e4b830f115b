import Derived.Test.YtaphehlgijlfeaaGreatDoorPlatH
set_option linter.unusedVariables false
set_option linter.unusedSimpArgs false
section
namespace Go.Av
open Go.RowKit
section
variable {P:Program} {G:Glob} {α:Type} {enc:α -> Value}
variable {o:Oper}
variable [DecidableEq α]
variable {o:Oper}
end
end Go.Av
end
section
namespace Go.Av
open Go.RowKit
section
variable {P:Program} {G:Glob} {α:Type} {enc:α -> Value} [DecidableEq α] {ops:Array Oper}
variable {fr:Nat -> EV} {o:Oper}
end
end Go.Av
end
section
namespace Go.Av
open Go.RowKit
section
variable {P:Program} {G:Glob} {st:ASt} {o:Oper}
theorem znn {T E:TypeId} {x:Operand} {m:Int} {zs:List Value} {size bytes l:Nat} {i:TypeInfo} {z:Value} (ho:o.op = .makeSlice T x x) (hd:vC o st.n = true) (hx:evO st.fr x = I m)
  (hu:P.underlying T = some (.slice E)) (hi:P.info? E = some i) (hz:i.zero = some z) (hsz:i.size = size) (hbt:i.bytes = bytes) (hc:z.cells = zs.toArray) (hzl:zs.length = size) (h1:zs.all Value.oneCell' = true)
  (hm:0 < m) (hm2:m <= 1000000000) (hb:bytes <= 1000) (hml:st.mem[l]? = some (.row [])):
  OpM P G st o ⟨st.n, jr st.fr o.dst (.psl l m.toNat), st.mem.set l (.row (List.replicate m.toNat (zs.map fun v=>.pub (.v v))))⟩:=by
 intro w0 ok0 a w hG hok hsit K Q hK
 obtain ⟨h0, h1', h2, ok, bs, h3, h4, h5, h6⟩:=hsit
 have hlm:l < st.mem.length:=(zLg hml).1
 have hlb:l < bs.length:=by rw [h5.len]; exact hlm
 have hbl:bs[l]? = some bs[l]:=by simp [hlb]
 have e:a.eval x = .int .i64 m:=by
  have hse:=jd (fr:=st.fr) (a:=a) (x:=x) fun t _=>h6.1 t
  rw [hx] at hse
  simp only[FitsE, Fits] at hse
  exact hse.1
 have hbytes:(i.bytes:Int) * m <= 281474976710656:=by
  have h:(i.bytes:Int) * m <= 1000 * 1000000000:=Int.mul_le_mul (by omega) hm2 (by omega) (by omega)
  omega
 have hmk:=run_make (P:=P) w T E i z hu hi hz .i64 .i64 m m (by omega) (by omega) hbytes (by omega)
 have hsize:z.cells.size = size:=by rw [hc]; simpa using hzl
 have hrun:(execOp a.eval o).run P w = .ok (.value (.slice (some ⟨w.heap.size, 0, none⟩) m.toNat m.toNat)) (w.alloc (.cells (madeCells z.cells (m.toNat * i.size)) E)):=by
  simp [execOp, ho, e, hmk]
 have hcs:(madeCells z.cells (m.toNat * i.size)).size = m.toNat * size:=by simp [madeCells, hsz]
 have hturn:=h5.turn (w':=w.alloc (.cells (madeCells z.cells (m.toNat * i.size)) E)) (b':=⟨some w.heap.size, m.toNat, E, size⟩) (rows':=List.replicate m.toNat (zs.map fun v=>.pub (.v v))) hbl hml (below_alloc w _).size (fun k hk _=>(below_alloc w _).block k hk) (by simp) (fun e=>by simp at e; omega)
  (fun g hg=>by simp at hg; exact .inr (Nat.le_of_eq hg)) h2.size (fun hfit=>by
   refine ⟨fun r hr=>?_, fun hnn=>(by simp at hnn), fun _ _=>(by simp; omega), fun g hg=>?_⟩
   ·
    have:=List.eq_of_mem_replicate hr
    rw [this]; simpa using hzl
   ·
    simp at hg
    subst hg
    refine ⟨_, heap_alloc_new w _, hcs, by simp, by simp only[maxLen]; omega, fun i' j r x hr hx=>?_⟩
    have hil:i' < m.toNat:=by have:=(zLg hr).1; simpa using this
    have hr':=List.eq_of_mem_replicate (List.mem_of_getElem? hr)
    subst hr'
    simp only[List.getElem?_map, Option.map_eq_some_iff] at hx
    obtain ⟨v, hv, rfl⟩:=hx
    have hj:j < size:=by have:=(zLg hv).1; omega
    have hlt:i' * size + j < m.toNat * size:=by
     have:(i' + 1) * size <= m.toNat * size:=Nat.mul_le_mul_right _ hil
     rw [Nat.succ_mul] at this
     omega
    refine ⟨v, ?_, by rw [List.all_eq_true] at h1; exact h1 v (List.mem_of_getElem? hv), vJ (by rw [List.all_eq_true] at h1; exact h1 v (List.mem_of_getElem? hv))⟩
    have hmod:(i' * size + j) % size = j:=by rw [Nat.mul_comm, Nat.mul_add_mod, Nat.mod_eq_of_lt hj]
    simp only[madeCells, hsz, Array.getElem?_map]
    rw [Array.getElem?_eq_getElem (by simpa using hlt)]
    simp only[Array.getElem_range, Option.map_some, hsize, hmod]
    have hv':z.cells[j]? = some v:=by rw [hc]; simpa using hv
    simp [Array.getElem!_eq_getD, Array.getD_eq_getD_getElem?, hv'])
 refine jT hrun (hK _ _ ⟨(size_put ..).trans h0, h1'.put (.of_below (below_alloc w _)) (qM hd), yf h2 h2.size (below_alloc w _), ok, _, h3, h4, hturn.1, ?_⟩)
 refine wX (h6.map hturn.2) ?_ (fun d hdd=>by rw [h0]; exact xB hd d hdd)
 simp only[FitsE]
 refine ⟨⟨some w.heap.size, m.toNat, E, size⟩, by simp [hlb], fun rows hr=>?_⟩
 simp [hlm] at hr
 subst hr
 simp [PB.sl]
theorem zaH {fr:Nat -> EV} {mem:List PO} {T E:TypeId} {x:Operand} {m:Int} {zs:List Value} {size bytes l:Nat} {i:TypeInfo} {z:Value} (ho:o.op = .makeSlice T x x) (hx:evO fr x = I m)
  (hu:P.underlying T = some (.slice E)) (hi:P.info? E = some i) (hz:i.zero = some z) (hsz:i.size = size) (hbt:i.bytes = bytes) (hc:z.cells = zs.toArray) (hzl:zs.length = size) (h1:zs.all Value.oneCell' = true)
  (hm:0 < m) (hm2:m <= 1000000000) (hb:bytes <= 1000) (hml:mem[l]? = some (.row [])):
  ∀ mm:List PO, mm[l]? = mem[l]? -> True -> OpB P G fr mm o (.psl l m.toNat) (mm.set l (.row (List.replicate m.toNat (zs.map fun v=>.pub (.v v))))) /\ True:=fun mm hmm _=>
 ⟨fun N fr2 he hd=>znn (P:=P) (G:=G) (st:=⟨N, fr2, mm⟩) ho hd ((he x (by simp [ho, Op.operands])).trans hx) hu hi hz hsz hbt hc hzl h1 hm hm2 hb (hmm.trans hml), trivial⟩
end
end Go.Av
end
section
namespace Go.Av
open Go.RowKit
theorem znq {P:Program} {G:Glob} {ops:Array Oper} {C:List PO -> Prop} {hows:Nat -> How} {Q:(Nat -> EV) -> List PO -> Prop} {k:Nat} {fr:Nat -> EV} {mem:List PO} {o:Oper} {rest:List Oper} (hk:hows k = .out) (hg:ja ops fr o = some false)
  (h:zal P G ops C hows Q (k + 1) rest (jr fr o.dst yX) mem):zal P G ops C hows Q k (o :: rest) fr mem:=⟨yX, mem, by rw [hk]; exact ⟨hg, rfl, rfl⟩, h⟩
end Go.Av
end
section
namespace Go.Av
open Go.RowKit
section
variable {P:Program} {G:Glob} {fr:Nat -> EV} {mem:List PO} {o:Oper}
theorem zli {T E:TypeId} {x:Operand} {m:Int} {zs:List Value} {size bytes:Nat} {i:TypeInfo} {z:Value} (ho:o.op = .makeSlice T x x) (hx:evO fr x = I m)
  (hu:P.underlying T = some (.slice E)) (hi:P.info? E = some i) (hz:i.zero = some z) (hsz:i.size = size) (hbt:i.bytes = bytes) (hc:z.cells = zs.toArray) (hzl:zs.length = size) (h1:zs.all Value.oneCell' = true)
  (hm:0 < m) (hm2:m <= 1000000000) (hb:bytes <= 1000):OpY P G fr mem o (.pub (.sl (List.replicate m.toNat (zs.map fun v=>.v v)))):=by
 intro n ok bs w a hG hB hmm hfit K Q hK
 have e:a.eval x = .int .i64 m:=by
  have hse:=hfit x (by simp [ho, Op.operands])
  rw [hx] at hse
  simp only[FitsE, Fits] at hse
  exact hse.1
 have hbytes:(i.bytes:Int) * m <= 281474976710656:=by
  have h:(i.bytes:Int) * m <= 1000 * 1000000000:=Int.mul_le_mul (by omega) hm2 (by omega) (by omega)
  omega
 have hmk:=run_make (P:=P) w T E i z hu hi hz .i64 .i64 m m (by omega) (by omega) hbytes (by omega)
 have hsize:z.cells.size = size:=by rw [hc]; simpa using hzl
 have hrun:(execOp a.eval o).run P w = .ok (.value (.slice (some ⟨w.heap.size, 0, none⟩) m.toNat m.toNat)) (w.alloc (.cells (madeCells z.cells (m.toNat * i.size)) E)):=by
  simp [execOp, ho, e, hmk]
 refine jT hrun (hK _ _ (below_alloc ..) ?_)
 simp only[FitsE, Fits]
 refine ⟨some ⟨w.heap.size, 0, none⟩, m.toNat, size, by simp, by simp, by unfold maxLen; omega, fun r hr=>by rw [List.eq_of_mem_replicate hr]; simpa using hzl, fun _=>⟨w.heap.size, 0, rfl, zkA .., FitsR.of_get (size:=size) (fun r hr=>by rw [List.eq_of_mem_replicate hr]; simpa using hzl) fun k r hr=>FitsC.of_get fun j x hxx=>?_⟩⟩
 have hil:k < m.toNat:=by have:=(zLg hr).1; simpa using this
 have hr':=List.eq_of_mem_replicate (List.mem_of_getElem? hr)
 subst hr'
 simp only[List.getElem?_map, Option.map_eq_some_iff] at hxx
 obtain ⟨v, hv, rfl⟩:=hxx
 have hj:j < size:=by have:=(zLg hv).1; omega
 have hlt:k * size + j < m.toNat * size:=by
  have:(k + 1) * size <= m.toNat * size:=Nat.mul_le_mul_right _ hil
  rw [Nat.succ_mul] at this
  omega
 have hone:v.oneCell' = true:=by rw [List.all_eq_true] at h1; exact h1 v (List.mem_of_getElem? hv)
 refine ⟨v, ?_, hone, by simp only[Fits]; exact ⟨trivial, hone⟩⟩
 have hmod:(k * size + j) % size = j:=by rw [Nat.mul_comm, Nat.mul_add_mod, Nat.mod_eq_of_lt hj]
 rw [World.cell?_alloc_new]
 simp only[madeCells, hsz, Array.getElem?_map, Nat.zero_add]
 rw [Array.getElem?_eq_getElem (by simpa using hlt)]
 simp only[Array.getElem_range, Option.map_some, hsize, hmod]
 have hv':z.cells[j]? = some v:=by rw [hc]; simpa using hv
 simp [Array.getElem!_eq_getD, Array.getD_eq_getD_getElem?, hv']
end
end Go.Av
end
