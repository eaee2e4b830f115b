import Derived.Test.YtgmbdadkbominaaGreatDoorPlatB
set_option linter.unusedVariables false
set_option linter.unusedSimpArgs false
section
namespace Go.Av
open Go.RowKit
section
variable {P:Program} {G:Glob} {st:ASt} {o:Oper}
theorem zmE {n:NS} {fr:Nat -> EV} {mem:List PO} {k m c i j:Nat} {rows:List (List AV)} {R:List (List EV)} {r:List EV} (hm:mem[k]? = some (.row (rows.map (·.map .pub)))) (hn:rows.length = m)
  (hc:mem[c]? = some (.row R)) (hri:R[i]? = some r) (hx:r[j]? = some (.psl k m)) (hck:Nat.beq c k = false):
  Weak ⟨n, fr, mem⟩ ⟨n, fr, (mem.set k .dead).set c (.row (R.set i (r.set j (.pub (.sl rows)))))⟩:=by
 intro w0 ok0 a w ⟨h0, h1, h2, ok, bs, h3, h4, h5, h6⟩
 have hck:c ≠ k:=Nat.ne_of_beq_eq_false hck
 have hkm:k < mem.length:=(zLg hm).1
 have hcm:c < mem.length:=(zLg hc).1
 have hi:i < R.length:=(zLg hri).1
 have hj:j < r.length:=(zLg hx).1
 have hlen:=h5.len
 simp only at hlen h5 h6
 have hkb:k < bs.length:=by omega
 have hb:bs[k]? = some bs[k]:=List.getElem?_eq_getElem hkb
 let mem':List PO:=(mem.set k .dead).set c (.row (R.set i (r.set j (.pub (.sl rows)))))
 have getO:∀ (l:Nat) (rs:PO), rs.live = true -> mem'[l]? = some rs -> (l = c /\ rs = .row (R.set i (r.set j (.pub (.sl rows))))) ∨ (l ≠ c /\ l ≠ k /\ mem[l]? = some rs):=fun l rs ho h=>by
  by_cases hl:c = l
  ·subst hl
   have h':mem'[c]? = some (.row (R.set i (r.set j (.pub (.sl rows))))):=List.getElem?_set_self (by simpa using hcm)
   rw [h'] at h
   injection h with h
   exact .inl ⟨rfl, h.symm⟩
  ·have h':mem'[l]? = (mem.set k .dead)[l]?:=List.getElem?_set_ne hl
   rw [h'] at h
   by_cases hl2:k = l
   ·subst hl2; rw [List.getElem?_set_self hkm] at h; injection h with h; subst h; cases ho
   ·rw [List.getElem?_set_ne hl2] at h
    exact .inr ⟨fun e=>hl e.symm, fun e=>hl2 e.symm, h⟩
 have get:∀ (l:Nat) (rs:List (List EV)), mem'[l]? = some (.row rs) -> (l = c /\ rs = R.set i (r.set j (.pub (.sl rows)))) ∨ (l ≠ c /\ l ≠ k /\ mem[l]? = some (.row rs)):=fun l rs h=>by
  rcases getO l _ rfl h with ⟨h1, h2⟩ | h1
  ·injection h2 with h2; exact .inl ⟨h1, h2⟩
  ·exact .inr h1
 have getM:∀ (l:Nat) (es:List (Value × EV)), mem'[l]? = some (.map es) -> mem[l]? = some (.map es):=fun l es h=>by
  rcases getO l _ rfl h with ⟨h1, h2⟩ | h1
  ·cases h2
  ·exact h1.2.2
 have ht:Turn bs bs mem mem':=by
  refine ⟨fun l b0 hb0=>⟨b0, hb0, fun rows' hr=>?_⟩, fun l b0 b1 es h0 h1 h=>?_⟩
  ·rcases get l rows' hr with ⟨rfl, rfl⟩ | ⟨_, _, h⟩
   ·exact ⟨R, hc, by simp, fun _=>rfl⟩
   ·exact ⟨rows', h, Nat.le_refl _, fun _=>rfl⟩
  ·rw [h0] at h1; injection h1 with h1
   exact ⟨⟨es, getM l es h⟩, h1.symm⟩
 let ok':Nat -> Prop:=fun b=>ok b ∨ bs[k].blk = some b
 have hk:∀ b, ok b -> ok' b:=fun b hb=>.inl hb
 have hf:∀ (e:EV) (u:Value), FitsE ok w bs mem e u -> FitsE ok' w bs mem' e u:=fun e u h=>h.mono hk (fun _ _=>rfl) ht
 have hpub:∀ u:Value, FitsE ok w bs mem (.psl k m) u -> FitsE ok' w bs mem' (.pub (.sl rows)) u:=fun u hf0=>by
  simp only[FitsE] at hf0 ⊢
  obtain ⟨b, hb', hf1⟩:=hf0
  rw [hb] at hb'
  injection hb' with hb'
  subst hb'
  have e:=(hf1 _ hm).2 (by simpa using hn)
  have hr:=h5.row k _ _ hb hm
  simp only[Fits]
  cases hg:bs[k].blk with
  | none=>
   have h7:=hr.nil hg
   have h8:rows = []:=by simpa using h7
   subst h8
   simp only[PB.sl, hg] at e
   exact ⟨none, 0, 0, by rw [e]; rfl, by simp, by simp [maxLen], by simp, by simp⟩
  | some g=>
   obtain ⟨cur, c1, c2, c3, c4, c5⟩:=hr.blk g hg
   simp only[PB.sl, hg] at e
   have hsz:∀ q ∈ rows, q.length = bs[k].size:=fun q hq=>by
    have:=hr.size (q.map .pub) (List.mem_map_of_mem hq)
    simpa using this
   refine ⟨_, bs[k].cap, bs[k].size, by rw [hn]; exact e, by simpa using c3, c4, hsz, fun _=>⟨g, 0, rfl, .inr hg, FitsR.of_get hsz fun i' q hqi=>FitsC.of_get fun j' x hx'=>?_⟩⟩
   obtain ⟨u', d1, d2, d3⟩:=c5 i' j' (q.map .pub) (.pub x) (by simp [hqi]) (by simp [hx'])
   refine ⟨u', ?_, d2, ?_⟩
   ·rw [cell_of_row w g _ cur _ _ c1]
    simpa using d1
   ·simp only[FitsE] at d3
    exact d3.mono hk (fun _ _=>rfl)
 have key:∀ (l:Nat) (rs:PO), rs.live = true -> mem'[l]? = some rs -> l ≠ k /\ ∃ rs0, mem[l]? = some rs0 /\ rs0.live = true:=fun l rs ho h=>by
  rcases getO l rs ho h with ⟨rfl, rfl⟩ | ⟨_, h1, h2⟩
  ·exact ⟨hck, _, hc, rfl⟩
  ·exact ⟨h1, rs, h2, ho⟩
 refine ⟨h0, h1, h2, ok', bs, fun b hb=>.inl (h3 b hb), fun b hb'=>?_, ⟨by simpa using hlen, fun b hb'=>?_, fun l b rs hb' hrs=>?_, fun l b es hb' hes=>?_, fun l b rs g hb' hrs ho hg=>?_, fun l l' b b' rs rs' g hb1 hr1 ho1 hb2 hr2 ho2 hg1 hg2=>?_⟩, h6.map hf⟩
 ·rcases hb' with h | h
  ·exact h4 b h
  ·exact .inr (h5.own k _ _ b hb hm h).1
 ·rcases hb' with h | h
  ·exact h5.lt b h
  ·exact h5.own_lt hb hm h
 ·rcases get l rs hrs with ⟨rfl, rfl⟩ | ⟨_, _, h⟩
  ·have hrow:=h5.row l b R hb' hc
   refine ⟨fun r' hr'=>?_, fun hn'=>by have:=hrow.nil hn'; subst this; simp at hi, fun g hg=>by have:=hrow.pos g hg; simpa using this, fun g hg=>?_⟩
   ·rcases List.mem_or_eq_of_mem_set hr' with h | h
    ·exact hrow.size r' h
    ·rw [h, List.length_set]; exact hrow.size r (List.mem_of_getElem? hri)
   ·obtain ⟨cur, c1, c2, c3, c4, c5⟩:=hrow.blk g hg
    refine ⟨cur, c1, c2, by simpa using c3, c4, fun i' j' r' x' hr' hx'=>?_⟩
    by_cases hii:i = i'
    ·subst hii
     rw [List.getElem?_set_self hi] at hr'
     injection hr' with hr'
     subst hr'
     by_cases hjj:j = j'
     ·subst hjj
      rw [List.getElem?_set_self hj] at hx'
      injection hx' with hx'
      subst hx'
      obtain ⟨u, d1, d2, d3⟩:=c5 i j r _ hri hx
      exact ⟨u, d1, d2, hpub u d3⟩
     ·rw [List.getElem?_set_ne hjj] at hx'
      obtain ⟨u, d1, d2, d3⟩:=c5 i j' r x' hri hx'
      exact ⟨u, d1, d2, hf _ _ d3⟩
    ·rw [List.getElem?_set_ne hii] at hr'
     obtain ⟨u, d1, d2, d3⟩:=c5 i' j' r' x' hr' hx'
     exact ⟨u, d1, d2, hf _ _ d3⟩
  ·have hrow:=h5.row l b rs hb' h
   refine ⟨hrow.size, hrow.nil, hrow.pos, fun g hg=>?_⟩
   obtain ⟨cur, c1, c2, c3, c4, c5⟩:=hrow.blk g hg
   refine ⟨cur, c1, c2, c3, c4, fun i' j' r' x' hr' hx'=>?_⟩
   obtain ⟨u, d1, d2, d3⟩:=c5 i' j' r' x' hr' hx'
   exact ⟨u, d1, d2, hf _ _ d3⟩
 ·obtain ⟨g, arr, c1, c2, c3, c4⟩:=h5.mp l b es hb' (getM l es hes)
  refine ⟨g, arr, c1, c2, c3, fun i q x hx=>?_⟩
  obtain ⟨v, d1, d2⟩:=c4 i q x hx
  exact ⟨v, d1, hf _ _ d2⟩
 ·obtain ⟨hne, rs0, hrs0, ho0⟩:=key l rs ho hrs
  obtain ⟨e1, e2⟩:=h5.own' l b rs0 g hb' hrs0 ho0 hg
  refine ⟨e1, fun h=>?_⟩
  rcases h with h | h
  ·exact e2 h
  ·exact hne (h5.dist' l k b _ rs0 _ g hb' hrs0 ho0 hb hm rfl hg h)
 ·obtain ⟨_, x1, y1, z1⟩:=key l rs ho1 hr1
  obtain ⟨_, x2, y2, z2⟩:=key l' rs' ho2 hr2
  exact h5.dist' l l' b b' x1 x2 g hb1 y1 z1 hb2 y2 z2 hg1 hg2
end
end Go.Av
end
