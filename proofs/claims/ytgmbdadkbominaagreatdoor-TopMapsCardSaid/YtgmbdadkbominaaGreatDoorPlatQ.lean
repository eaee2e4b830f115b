import Derived.Test.YtgmbdadkbominaaGreatDoorPlatJ
import Derived.Test.YtgmbdadkbominaaGreatDoorPlatB
import Derived.Test.YtgmbdadkbominaaGreatDoorPlatH
import Derived.Test.YtgmbdadkbominaaGreatDoorPlatM
import Derived.Test.YtgmbdadkbominaaGreatDoorPlatA
import Derived.Scope
import Derived.Test.YtgmbdadkbominaaGreatDoorPlatF
set_option linter.unusedVariables false
set_option linter.unusedSimpArgs false
section
namespace Go.Av
open Go.RowKit
theorem zgN {α:Type} {size:Nat}:∀ {rows:List (List α)}, (∀ r ∈ rows, r.length = size) -> ∀ (i j:Nat) (r:List α), rows[i]? = some r -> j < size -> rows.flatten[i * size + j]? = r[j]?
 | [], _, i, j, r, h, _=>by simp at h
 | q :: qs, hs, i, j, r, h, hj=>by
  have hq:q.length = size:=hs q (by simp)
  cases i with
  | zero=>simp at h; subst h; simp [List.getElem?_append, hq, hj]
  | succ i=>
   simp at h
   have:=zgN (fun r hr=>hs r (by simp [hr])) i j r h hj
   rw [List.flatten_cons, List.getElem?_append, if_neg (by rw [hq, Nat.add_mul]; omega), hq, show (i + 1) * size + j - size = i * size + j from by rw [Nat.add_mul]; omega]
   exact this
section
variable {P:Program} {G:Glob} {st:ASt} {o:Oper}
theorem zkN {T E:TypeId} {len size l:Nat} {parts:Array (Nat × Operand)} {i:TypeInfo} {qs:List (Nat × List EV)} {rows:List (List EV)} (ho:o.op = .buildSlice T len parts) (hd:jO o st.n = true)
  (ht:P.underlying T = some (.slice E)) (hi:P.info? E = some i) (hsz:i.size = size) (hpos:0 < size) (hz:i.zero.isSome = true) (hmax:len * size <= 16777216)
  (hq:zbn st.mem st.fr parts.toList qs) (hf:zdG (fun i=>some (i * size, size)) (List.replicate (len * size) (.pub .top)) qs = some rows.flatten)
  (hn:∀ x ∈ rows.flatten, x ≠ .pub .top) (hl:rows.length = len) (h0l:0 < len) (hrs:∀ r ∈ rows, r.length = size) (hml:st.mem[l]? = some (.row [])):
  OpM P G st o ⟨st.n, qX st.fr o.dst (.psl l len), st.mem.set l (.row rows)⟩:=by
 subst hsz
 intro w0 ok0 a w hG hok hsit K Q hK
 obtain ⟨h0, h1', h2, ok, bs, h3, h4, h5, h6⟩:=hsit
 have hlm:l < st.mem.length:=(zLg hml).1
 have hlb:l < bs.length:=by rw [h5.len]; exact hlm
 have hbl:bs[l]? = some bs[l]:=by simp [hlb]
 obtain ⟨z, hz⟩:=Option.isSome_iff_exists.1 hz
 obtain ⟨z0, hz0⟩:∃ z0:Array Value, z0 = if len * i.size = 0 then #[] else z.cells:=⟨_, rfl⟩
 obtain ⟨cs, c1, c2⟩:=zeW (a:=a) (fun k=>some (k * i.size, i.size)) parts.toList qs _ rows.flatten ((Array.range (len * i.size)).map (z0[· % z0.size]!)) (fun p _=>qO fun t _=>h6.1 t) hq
  (by
   have h:=CellIs.tops (ok:=ok) (w:=w) (bs:=bs) (mem:=st.mem) ((Array.range (len * i.size)).map (z0[· % z0.size]!)).toList
   rwa [show ((Array.range (len * i.size)).map (z0[· % z0.size]!)).toList.map (fun _=>EV.pub .top) = List.replicate (len * i.size) (.pub .top) from by rw [List.map_const']; simp] at h) hf
 obtain ⟨c3, c4⟩:=c2.fits (fun x hx=>hn x hx)
 have hbig:¬ len * i.size > 2 ^ 24:=by omega
 have hne:¬ len * i.size = 0:=by
  have:=Nat.mul_pos h0l hpos
  omega
 have hlen:len <= maxLen:=by
  have:len <= len * i.size:=Nat.le_mul_of_pos_right _ hpos
  unfold maxLen; omega
 have hcs:cs.size = len * i.size:=by
  have h:=FitsEL.length c3
  have h2:∀ {rows:List (List EV)}, (∀ r ∈ rows, r.length = i.size) -> rows.flatten.length = rows.length * i.size:=by
   intro rows
   induction rows with
   | nil=>intro _; simp
   | cons r rows ih=>
    intro hr
    rw [List.flatten_cons, List.length_append, hr r (List.mem_cons_self ..), ih fun q hq=>hr q (List.mem_cons_of_mem _ hq), List.length_cons, Nat.add_mul]; omega
  rw [h2 hrs, hl] at h
  simpa using h
 have hrun:(execOp a.eval o).run P w = .ok (.value (.slice (some ⟨w.heap.size, 0, none⟩) len len)) (w.alloc (.cells cs E)):=by
  have h1':Instr.fill (fun k=>some (k * i.size, i.size)) ((Array.range (len * i.size)).map (z0[· % z0.size]!)) (parts.map fun p=>(p.1, a.eval p.2)).toList = some cs:=by simpa using c1
  have hbs:(Instr.buildSlice T len (parts.map fun p=>(p.1, a.eval p.2))).run P w = .ok (.slice (some ⟨w.heap.size, 0, none⟩) len len) (w.alloc (.cells cs E)):=by
   unfold Instr.buildSlice
   rw [if_neg hne] at hz0
   subst hz0
   simp only[Sem.run_bind, run_underlying ht, Result.andThen_ok, sizeOf, typeInfo, run_program, hi, Sem.run_pure, hbig, if_false, hne, zeroValue, hz, newRow, h1']
   rfl
  simp only[execOp, ho, Sem.run_bind]
  have e:(parts.map fun x=>match x with | (i, x)=>(i, a.eval x)) = parts.map fun p=>(p.1, a.eval p.2):=rfl
  rw [e, hbs]
  rfl
 have hturn:=h5.turn (w':=w.alloc (.cells cs E)) (b':=⟨some w.heap.size, len, E, i.size⟩) (rows':=rows) hbl hml (below_alloc w _).size (fun k hk _=>(below_alloc w _).block k hk) (by simp) (fun e=>by simp at e; omega)
  (fun g hg=>by simp at hg; exact .inr (Nat.le_of_eq hg)) h2.size (fun hfit=>by
   refine ⟨hrs, fun hnn=>(by simp at hnn), fun _ _=>(by omega), fun g hg=>?_⟩
   simp at hg
   subst hg
   refine ⟨_, heap_alloc_new w _, hcs, by simp [hl], hlen, fun i' j r x hr hx=>?_⟩
   have hj:j < i.size:=by
    have:=(zLg hx).1
    rwa [hrs r (List.mem_of_getElem? hr)] at this
   have hg:=zgN hrs i' j r hr hj
   rw [hx] at hg
   obtain ⟨u, u1, u2⟩:=c3.get hg
   refine ⟨u, by simpa using u1, c4 u (List.mem_of_getElem? u1), hfit _ _ u2⟩)
 refine jR hrun (hK _ _ ⟨(size_put ..).trans h0, h1'.put (.of_below (below_alloc w _)) (qC hd), wI h2 h2.size (below_alloc w _), ok, _, h3, h4, hturn.1, ?_⟩)
 refine wo (h6.map hturn.2) ?_ (fun d hdd=>by rw [h0]; exact yB hd d hdd)
 simp only[FitsE]
 refine ⟨⟨some w.heap.size, len, E, i.size⟩, by simp [hlb], fun rows' hr=>?_⟩
 simp [hlm] at hr
 subst hr
 simp [PB.sl, hl]
end
end Go.Av
end
section
namespace Go.Av
open Go.RowKit
section
variable {F:Fence} {n:Nat} {P:Program} {md:Region.Mode}
end
section
variable {P:Program} {G:Glob} {md:Region.Mode}
end
section
variable {P:Program} {G:Glob} {st:ASt}
end
end Go.Av
end
section
namespace Go.Av
open Go.RowKit Go.Proofs
section
variable {P:Program} {G:Glob} {st:ASt} {o:Oper}
end
end Go.Av
end
section
namespace Go.Av
open Go.RowKit
section
variable {r:Option Nat} {P:Program} {G:Glob} {st:ASt} {Q:Exit -> ASt -> Prop}
end
end Go.Av
end
section
namespace Go.Av
open Go.RowKit
section
variable {P:Program} {G:Glob} {st:ASt}
end
end Go.Av
end
