import Derived.Test.YtgmbdadkbominaaGreatDoorPlatH
import Derived.Test.YtgmbdadkbominaaGreatDoorPlatE
set_option linter.unusedVariables false
set_option linter.unusedSimpArgs false
section
namespace Go.Av
open Go.RowKit
theorem zou {α:Type} {l:List α} {k:Nat} {x:α} (h:l[k]? = some x):l.set k x = l:=by
 apply List.ext_getElem?
 intro t
 by_cases ht:k = t
 ·subst ht; rw [h]; simp [(zLg h).1]
 ·rw [List.getElem?_set_ne ht]
theorem ziq {n:NS} {fr:Nat -> EV} {mem:List PO} {k i j L:Nat} {rows:List (List EV)} {r:List EV} (hm:mem[k]? = some (.row rows)) (hr:rows[i]? = some r) (hj:r[j]? = some (.pub (.v (.slice none 0 0)))) (hL:mem[L]? = some (.row [])):
  Weak ⟨n, fr, mem⟩ ⟨n, fr, mem.set k (.row (rows.set i (r.set j (.psl L 0))))⟩:=by
 intro w0 ok0 a w ⟨h0, h1, h2, ok, bs, h3, h4, h5, h6⟩
 have hi:i < rows.length:=(zLg hr).1
 have hjl:j < r.length:=(zLg hj).1
 have hkm:k < mem.length:=(zLg hm).1
 have hlen:=h5.len
 simp only at hlen h5 h6
 have hb:bs[k]? = some bs[k]:=List.getElem?_eq_getElem (by omega)
 have hLm:L < mem.length:=(zLg hL).1
 have hbL:bs[L]? = some bs[L]:=List.getElem?_eq_getElem (by omega)
 have hrow:=h5.row k _ rows hb hm
 have hrowL:=h5.row L _ [] hbL hL
 have hLb:bs[L].blk = none:=by
  cases hx:bs[L].blk with
  | none=>rfl
  | some g=>have:=hrowL.pos g hx; simp at this
 have hne:L ≠ k:=fun e=>by
  subst e
  rw [hL] at hm
  injection hm with hm
  injection hm with hm
  subst hm
  simp at hi
 have hturn:=h5.turn (w':=w) (b':=bs[k]) (rows':=rows.set i (r.set j (.psl L 0))) hb hm (Nat.le_refl _) (fun t _ _=>rfl) (by simp) (fun _=>rfl) (fun g' hg'=>.inl hg') h2.size (fun hfit=>by
  refine ⟨fun r' hr'=>?_, fun hnone=>(by have:=hrow.nil hnone; subst this; simp at hi), fun g' hg'=>(by have:=hrow.pos g' hg'; simpa using this), fun g' hg'=>?_⟩
  ·rcases List.mem_or_eq_of_mem_set hr' with h | h
   ·exact hrow.size r' h
   ·rw [h, List.length_set]; exact hrow.size r (List.mem_of_getElem? hr)
  ·obtain ⟨cur, hc, hcs, hcl, hcm, hcell⟩:=hrow.blk g' hg'
   refine ⟨cur, hc, hcs, by simpa using hcl, hcm, fun i' j' r' x' hr' hx'=>?_⟩
   by_cases hii:i = i'
   ·subst hii
    rw [List.getElem?_set_self hi] at hr'
    injection hr' with hr'
    subst hr'
    by_cases hjj:j = j'
    ·subst hjj
     rw [List.getElem?_set_self hjl] at hx'
     injection hx' with hx'
     subst hx'
     obtain ⟨u, c1, c2, c3⟩:=hcell i j r _ hr hj
     simp only[FitsE, Fits] at c3
     refine ⟨u, c1, c2, ?_⟩
     simp only[FitsE]
     refine ⟨bs[L], ?_, fun rows2 h7=>?_⟩
     ·rw [List.getElem?_set_ne (Ne.symm hne)]; exact hbL
     ·rw [List.getElem?_set_ne (Ne.symm hne), hL] at h7
      injection h7 with h7
      injection h7 with h7
      subst h7
      refine ⟨Nat.le_refl _, fun _=>?_⟩
      unfold PB.sl
      rw [hLb]
      exact c3.1
    ·rw [List.getElem?_set_ne hjj] at hx'
     obtain ⟨u, c1, c2, c3⟩:=hcell i j' r x' hr hx'
     exact ⟨u, c1, c2, hfit _ _ c3⟩
   ·rw [List.getElem?_set_ne hii] at hr'
    obtain ⟨u, c1, c2, c3⟩:=hcell i' j' r' x' hr' hx'
    exact ⟨u, c1, c2, hfit _ _ c3⟩)
 obtain ⟨hm', hf'⟩:=hturn
 rw [zou hb] at hm' hf'
 exact ⟨h0, h1, h2, ok, bs, h3, h4, hm', h6.map hf'⟩
theorem zhJ {n:NS} {fr:Nat -> EV} {mem:List PO}:Weak ⟨n, fr, mem⟩ ⟨n, fr, mem ++ [.row []]⟩:=by
 intro w0 ok0 a w ⟨h0, h1, h2, ok, bs, h3, h4, h5, h6⟩
 have ht:=Turn.push h5.len ⟨none, 0, 0, 0⟩ (.row [])
 exact ⟨h0, h1, h2, ok, bs ++ [⟨none, 0, 0, 0⟩], h3, h4, h5.push (Below.refl _ _) h2.size ⟨by simp, fun _=>rfl, fun g hg=>(by simp at hg), fun g hg=>(by simp at hg)⟩ (fun g hg=>by simp at hg),
  fun t=>(h6.1 t).mono (fun _ hb=>hb) (fun _ _=>rfl) ht, fun p hp=>(h6.2 p hp).mono (fun _ hb=>hb) (fun _ _=>rfl) ht⟩
theorem zgZ {n:NS} {fr:Nat -> EV} {mem:List PO} {k i j:Nat} {rows:List (List EV)} {r:List EV} (hm:mem[k]? = some (.row rows)) (hr:rows[i]? = some r) (hj:r[j]? = some (.pub (.v (.slice none 0 0)))):
  Weak ⟨n, fr, mem⟩ ⟨n, fr, mem.set k (.row (rows.set i (r.set j (.psl mem.length 0)))) ++ [.row []]⟩:=by
 have hk:k < mem.length:=(zLg hm).1
 have h1:=zhJ (n:=n) (fr:=fr) (mem:=mem)
 have h2:=ziq (n:=n) (fr:=fr) (mem:=mem ++ [.row []]) (k:=k) (i:=i) (j:=j) (L:=mem.length) (rows:=rows) (r:=r) (by rw [List.getElem?_append_left hk]; exact hm) hr hj (by simp)
 have e:(mem ++ [PO.row []]).set k (.row (rows.set i (r.set j (.psl mem.length 0)))) = mem.set k (.row (rows.set i (r.set j (.psl mem.length 0)))) ++ [.row []]:=by
  rw [List.set_append_left _ _ hk]
 rw [e] at h2
 exact h1.trans h2
end Go.Av
end
section
namespace Go.Av
open Go.RowKit
section
variable {P:Program} {G:Glob}
theorem zgG {α:Type} {st:ASt} {Q:Exit -> ASt -> Prop} {g:Operand} {ps:Array Tmp} {as bo:Code} {f:FuncId} {fs cs:List AV} (xs:List α) (qf:α -> List AV) (live:List Tmp) (V:Nat -> Prop) (I:Nat -> List PO) (hV0:V 0)
  (hg:evO st.fr g = .pub (.fn f fs cs)) (hit:zcM P G f fs cs (xs.map qf)) (hm:st.mem = I 0) (hlen:∀ x, (qf x).length = ps.size) (hpd:(ps.toList.all fun t=>Nat.blt t st.n.n) = true) (hlv:(live.all fun t=>Nat.blt t st.n.n) = true)
  (round:∀ (k:Nat) (x:α) (gh:List (EV × Value)) (l:Nat) (h1 h2:List (Nat × Obj)), xs[k]? = some x -> V k ->
   jl (r:=some l) P G as ⟨NS.round st.n.n gh h1, zb8 (jh st.fr live) ps.toList (qf x), I k⟩ (fun e s=>e = .normal /\ s.n = NS.round st.n.n gh h1 /\
    jl (r:=some l) P G bo ⟨NS.round st.n.n gh h2, s.fr, s.mem⟩ (zd2 st.n.marked (NS.round st.n.n gh h2) (jh st.fr live) (V (k + 1)) (I (k + 1)) Q)))
  (hdone:V xs.length -> Q .normal ⟨st.n.marked, jh st.fr live, I xs.length⟩):jl (r:=none) P G (.rangeFunc g ps as bo) st Q:=by
 refine zdy (qs:=xs.map qf) live V I hV0 hg hit hm ?_ hpd hlv ?_ ?_
 ·intro q hq
  obtain ⟨x, _, rfl⟩:=List.mem_map.1 hq
  exact hlen x
 ·intro k q gh l h1 h2 hq hV
  rw [List.getElem?_map] at hq
  cases hx:xs[k]? with
  | none=>rw [hx] at hq; cases hq
  | some x=>
   rw [hx] at hq
   injection hq with hq
   subst hq
   exact round k x gh l h1 h2 hx hV
 ·rw [List.length_map]; exact hdone
end
end Go.Av
end
section
namespace Go.Av
end Go.Av
end
