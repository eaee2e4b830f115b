import Derived.Test.YtdjncbjfejdamaaGreatDoorChLA
set_option linter.unusedVariables false
set_option linter.unusedSimpArgs false
section
namespace Go.Av
open Go.Gr
set_option maxRecDepth 100000
section
variable {h:Nat -> Bool} {w r:Nat}
end
end Go.Av
end
section
namespace Go.Av
open Go.Gr
set_option maxRecDepth 100000
def zPq (w p:Nat):List Nat:=[p, p + 1, p + w + 1, p + w]
section
variable {h:Nat -> Bool} {w r:Nat}
end
end Go.Av
end
section
namespace Go.Av
open Go.Gr
set_option maxRecDepth 100000
def zKx (w p:Nat):List Cr:=[(p, p + 1), (p + 1, p + w + 1), (p + w + 1, p + w), (p + w, p)]
def zHr (h:Nat -> Bool) (w p:Nat):List Cr:=(zKx w p).filterMap fun s=>crO h s.1 s.2
def zIZ (n:Nat):List Cr -> List (Cr × Cr)
 | []=>[]
 | x :: t=>((t.filter fun y=>n == 2 || x.2 == y.2).map fun y=>(x, y)) ++ zIZ n t
def zIL (h:Nat -> Bool) (w p:Nat):List (Cr × Cr):=zIZ (zHr h w p).length (zHr h w p)
def zKr (b:Nat -> Bool):List Cr:=[((0, 1):Cr), (1, 3), (3, 2), (2, 0)].filterMap fun s=>crO b s.1 s.2
def zJ5 (b:Nat -> Bool):List (Cr × Cr):=zIZ (zKr b).length (zKr b)
theorem zSE:∀ b0 b1 b2 b3:Bool, ((zHK (zHW b0 b1 b2 b3)).all fun x=>(zJ5 (zHW b0 b1 b2 b3)).flatMap (prt x) == (pt4 (zHW b0 b1 b2 b3) x).toList) = true:=by decide +kernel
theorem zKw:∀ b0 b1 b2 b3:Bool, ((zJ5 (zHW b0 b1 b2 b3)).all fun q=>(zHK (zHW b0 b1 b2 b3)).contains q.1 && (zHK (zHW b0 b1 b2 b3)).contains q.2 && !(q.1 == q.2)) = true:=by decide +kernel
theorem zNA:∀ b0 b1 b2 b3:Bool, ((zKr (zHW b0 b1 b2 b3)).all fun x=>decide (x.1 < 4) && decide (x.2 < 4)) = true:=by decide +kernel
section
variable {h:Nat -> Bool} {w r:Nat}
theorem zNf (p:Nat):zHr h w p = (zKr (zHE h w p)).map (zHD w p):=by
 have e1:crO h p (p + 1) = _:=zIT (h:=h) (w:=w) (p:=p) (i:=0) (j:=1) (by omega) (by omega)
 have e2:crO h (p + 1) (p + w + 1) = _:=zIT (h:=h) (w:=w) (p:=p) (i:=1) (j:=3) (by omega) (by omega)
 have e3:crO h (p + w + 1) (p + w) = _:=zIT (h:=h) (w:=w) (p:=p) (i:=3) (j:=2) (by omega) (by omega)
 have e4:crO h (p + w) p = _:=zIT (h:=h) (w:=w) (p:=p) (i:=2) (j:=0) (by omega) (by omega)
 unfold zHr zKr zKx
 simp only[List.filterMap_cons, List.filterMap_nil, e1, e2, e3, e4]
 cases crO (zHE h w p) 0 1 <;> cases crO (zHE h w p) 1 3 <;> cases crO (zHE h w p) 3 2 <;> cases crO (zHE h w p) 2 0 <;> rfl
theorem zKz {p n:Nat} (hw:1 < w):∀ {L:List Cr}, (∀ x ∈ L, x.1 < 4 /\ x.2 < 4) -> zIZ n (L.map (zHD w p)) = (zIZ n L).map fun q=>(zHD w p q.1, zHD w p q.2)
 | [], _=>rfl
 | x :: t, hL=>by
  have ih:=zKz (p:=p) (n:=n) hw (L:=t) fun y hy=>hL y (List.mem_cons_of_mem _ hy)
  rw [List.map_cons]
  unfold zIZ
  rw [ih, List.map_append]
  congr 1
  have hx:=hL x (List.mem_cons_self ..)
  have key:∀ M:List Cr, (∀ y ∈ M, y.1 < 4 /\ y.2 < 4) -> ((M.map (zHD w p)).filter fun y=>n == 2 || (zHD w p x).2 == y.2).map (fun y=>(zHD w p x, y)) = ((M.filter fun y=>n == 2 || x.2 == y.2).map fun y=>(x, y)).map fun q=>(zHD w p q.1, zHD w p q.2):=by
   intro M
   induction M with
   | nil=>intro _; rfl
   | cons y M ih2=>
    intro hM
    have hy:=hM y (List.mem_cons_self ..)
    have ih2:=ih2 fun z hz=>hM z (List.mem_cons_of_mem _ hz)
    rw [List.map_cons, List.filter_cons, List.filter_cons]
    have e:(n == 2 || (zHD w p x).2 == (zHD w p y).2) = (n == 2 || x.2 == y.2):=by
     show (n == 2 || cor w p x.2 == cor w p y.2) = _
     rw [zJt hw hx.2 hy.2]
    rw [e]
    cases (n == 2 || x.2 == y.2) with
    | true=>simp only[if_pos, List.map_cons, ih2]
    | false=>simpa using ih2
  exact key t fun y hy=>hL y (List.mem_cons_of_mem _ hy)
theorem zKQ {p:Nat} (hw:1 < w):zIL h w p = (zJ5 (zHE h w p)).map fun q=>(zHD w p q.1, zHD w p q.2):=by
 unfold zIL zJ5
 rw [zNf, List.length_map]
 refine zKz hw fun x hx=>?_
 have:=zNA (h p) (h (p + 1)) (h (p + w)) (h (p + w + 1))
 rw [List.all_eq_true] at this
 simpa using this x hx
theorem zNB {p:Nat} (hw:1 < w):∀ q ∈ zIL h w p, q.1 ∈ cellL h w p /\ q.2 ∈ cellL h w p /\ q.1 ≠ q.2:=fun q hq=>by
 rw [zKQ hw] at hq
 obtain ⟨q', hq', rfl⟩:=List.mem_map.1 hq
 have hs:=zKw (h p) (h (p + 1)) (h (p + w)) (h (p + w + 1))
 rw [List.all_eq_true] at hs
 have:=hs q' hq'
 simp only[zLa, Bool.not_eq_true', beq_eq_false_iff_ne, List.contains_iff_mem] at this
 rw [zH8]
 refine ⟨List.mem_map_of_mem this.1.1, List.mem_map_of_mem this.1.2, fun e=>this.2 ?_⟩
 have h2:=zIv (p:=p) hw (zIM _ this.1.1) (zIM _ this.1.2)
 simp only at e
 rw [e] at h2
 simpa using h2.symm
theorem zOe {p:Nat} (hw:1 < w) (x:Cr):(zIL h w p).flatMap (prt x) = (ptO h w p x).toList:=by
 by_cases hx:x ∈ cellL h w p
 ·
  rw [zH8] at hx
  obtain ⟨x', hx', rfl⟩:=List.mem_map.1 hx
  rw [zKQ hw, zK4 hw hx', List.flatMap_map]
  have hs:=zSE (h p) (h (p + 1)) (h (p + w)) (h (p + w + 1))
  have hm:=zKw (h p) (h (p + 1)) (h (p + w)) (h (p + w + 1))
  rw [List.all_eq_true] at hs hm
  have hs:=eq_of_beq (hs x' hx')
  rw [show (pt4 (zHE h w p) x') = pt4 (zHW (h p) (h (p + 1)) (h (p + w)) (h (p + w + 1))) x' from rfl]
  rw [show (Option.map (zHD w p) (pt4 (zHW (h p) (h (p + 1)) (h (p + w)) (h (p + w + 1))) x')).toList = ((pt4 (zHW (h p) (h (p + 1)) (h (p + w)) (h (p + w + 1))) x').toList).map (zHD w p) from by cases pt4 (zHW (h p) (h (p + 1)) (h (p + w)) (h (p + w + 1))) x' <;> rfl]
  rw [← hs, List.map_flatMap]
  have key:∀ (L:List (Cr × Cr)), (∀ q ∈ L, q ∈ zJ5 (zHW (h p) (h (p + 1)) (h (p + w)) (h (p + w + 1)))) -> L.flatMap (fun q=>prt (zHD w p x') (zHD w p q.1, zHD w p q.2)) = L.flatMap fun q=>(prt x' q).map (zHD w p):=by
   intro L
   induction L with
   | nil=>intro _; rfl
   | cons q L ih=>
    intro hL
    have hq:=hm q (hL q (List.mem_cons_self ..))
    simp only[zLa, List.contains_iff_mem] at hq
    rw [List.flatMap_cons, List.flatMap_cons, ih (fun q hq=>hL q (List.mem_cons_of_mem _ hq)), zMB hw (zIM (h:=h) (w:=w) (p:=p) _ hx') (zIM (h:=h) (w:=w) (p:=p) _ hq.1.1) (zIM (h:=h) (w:=w) (p:=p) _ hq.1.2)]
  exact key _ fun q hq=>hq
 ·
  have e1:ptO h w p x = none:=by
   unfold ptO
   rw [show (cellL h w p).contains x = false from by rw [Bool.eq_false_iff]; simpa using hx]
   rfl
  rw [e1]
  show _ = []
  rw [List.flatMap_eq_nil_iff]
  intro q hq
  obtain ⟨a, b, _⟩:=zNB hw q hq
  unfold prt
  rw [if_neg (fun e:q.1 = x=>hx (e ▸ a)), if_neg (fun e:q.2 = x=>hx (e ▸ b))]
theorem zNZ (hw6:w <= 6) (x:Cr):((wP w r).flatMap (zIL h w)).flatMap (prt x) = pts h w r x:=by
 by_cases hw:1 < w
 ·
  rw [List.flatMap_assoc]
  unfold pts
  induction wP w r with
  | nil=>rfl
  | cons c L ih=>
   rw [List.flatMap_cons, List.filterMap_cons, zOe hw, ih]
   cases ptO h w c x <;> rfl
 ·
  unfold pts
  rw [cells_one (by omega)]; rfl
end
end Go.Av
end
section
namespace Go.Gr
set_option linter.unusedSectionVars false
variable {C:Type} [DecidableEq C] {nb:C -> List C} {all met R:List C}
structure FI (nb:C -> List C) (all met R:List C) (n:Nat) (t:List C) (x:C):Prop where
 pth:Pth nb (t ++ [x])
 sub:∀ y ∈ t ++ [x], y ∈ all
 nm:∀ y ∈ t ++ [x], y ∉ met
 len:all.length <= n + t.length
 eq:goW nb met n t x = R
def nxW (nb:C -> List C) (met out:List C) (x:C):Option C:=(nb x).find? fun y=>!decide (y ∈ met) && !decide (y ∈ out)
theorem FI.start {x:C} {N:Nat} (hx:x ∈ all) (hm:x ∉ met) (hN:all.length <= N):FI nb all met (goW nb met N [] x) N [] x:=
 ⟨⟨by simp, fun i hi=>by simp at hi⟩, fun y hy=>by simp at hy; subst hy; exact hx, fun y hy=>by simp at hy; subst hy; exact hm, by simpa using hN, rfl⟩
theorem FI.stop {n:Nat} {t:List C} {x:C} (h:FI nb all met R n t x) (e:nxW nb met (t ++ [x]) x = none):R = t ++ [x]:=by
 have he:=h.eq
 cases n with
 | zero=>exact he.symm
 | succ n=>
  unfold goW at he
  unfold nxW at e
  rw [e] at he
  exact he.symm
theorem zKj {l m:List C} (hl:l.Nodup) (hs:∀ y ∈ l, y ∈ m):l.length <= m.length:=List.Nodup.length_le_of_subset hl hs
theorem FI.go (cl:∀ x ∈ all, ∀ y ∈ nb x, y ∈ all) {n:Nat} {t:List C} {x y:C} (h:FI nb all met R n t x) (e:nxW nb met (t ++ [x]) x = some y):∃ m, n = m + 1 /\ FI nb all met R m (t ++ [x]) y:=by
 have hx:=h.sub x (by simp)
 have hy:=List.mem_of_find?_eq_some e
 have hp:=List.find?_some e
 simp only[zLa, Bool.not_eq_true', decide_eq_false_iff_not] at hp
 have hya:=cl x hx y hy
 cases n with
 | zero=>
  exfalso
  have h1:=h.pth.push hy hp.2
  have h2:=zKj h1.nd (m:=all) (fun z hz=>by
   rcases List.mem_append.1 hz with hz | hz
   ·
    exact h.sub z hz
   ·
    simp at hz; subst hz; exact hya)
  have:=h.len
  simp at h2
  omega
 | succ m=>
  refine ⟨m, rfl, h.pth.push hy hp.2, fun z hz=>?_, fun z hz=>?_, ?_, ?_⟩
  ·
   rcases List.mem_append.1 hz with hz | hz
   ·
    exact h.sub z hz
   ·
    simp at hz; subst hz; exact hya
  ·
   rcases List.mem_append.1 hz with hz | hz
   ·
    exact h.nm z hz
   ·
    simp at hz; subst hz; exact hp.1
  ·
   have:=h.len; simp; omega
  ·
   have he:=h.eq
   unfold goW at he
   unfold nxW at e
   rw [e] at he
   exact he
theorem FI.lenR {n:Nat} {t:List C} {x:C} (h:FI nb all met R n t x):t.length + 1 <= all.length:=by
 have:=zKj h.pth.nd (m:=all) h.sub
 simpa using this
def phS (nb:C -> List C) (N most:Nat) (s:List C × List (List C)) (c:C):List C × List (List C):=if c ∈ s.1 ∨ most < (nb c).length then s else (s.1 ++ goW nb s.1 N [] c, s.2 ++ [goW nb s.1 N [] c])
theorem zRS {N most:Nat}:∀ (cs:List C) (s:List C × List (List C)), ph nb N most cs s = cs.foldl (phS nb N most) s
 | [], s=>rfl
 | c :: cs, s=>by rw [List.foldl_cons]; exact zRS cs _
def phK (nb:C -> List C) (all:List C) (N most:Nat) (s:List C × List (List C)) (k:Nat):List C × List (List C):=(all.take k).foldl (phS nb N most) s
theorem zRc {N most:Nat} {s:List C × List (List C)}:phK nb all N most s 0 = s:=by unfold phK; simp
theorem zSl {N most:Nat} {s:List C × List (List C)} {k:Nat} (hk:k < all.length):phK nb all N most s (k + 1) = phS nb N most (phK nb all N most s k) all[k]:=by
 unfold phK; rw [List.take_add_one, List.getElem?_eq_getElem hk, Option.toList_some, List.foldl_append]; rfl
theorem zPi {N most:Nat} {s:List C × List (List C)}:phK nb all N most s all.length = ph nb N most all s:=by unfold phK; rw [List.take_length, zRS]
theorem zPj (G:Gph nb all) {N most:Nat} (hN:all.length <= N) (hmost:most <= 1 ∨ 2 <= most) {s:List C × List (List C)} (hs:SI nb all s) (h2:2 <= most -> ∀ x ∈ all, x ∉ s.1 -> (nb x).length = 2) (k:Nat):SI nb all (phK nb all N most s k):=by
 unfold phK; rw [← zRS]; exact zKb G hN hmost _ _ (fun c hc=>List.mem_of_mem_take hc) hs h2
theorem SI.nil:SI nb all (([], []):List C × List (List C)):=⟨rfl, by simp, by simp⟩
theorem zPz (G:Gph nb all) {N:Nat}:∀ x ∈ all, x ∉ (ph nb N 1 all ([], [])).1 -> (nb x).length = 2:=fun x hx hn=>by
 have hw:∀ (met:List C) (c:C), c ∈ goW nb met N [] c:=fun met c=>zJ1 N [] c c (by simp)
 have h1:=G.two x hx
 have h2:¬ (nb x).length <= 1:=fun h=>hn (zRV hw all _ x hx h)
 omega
theorem SI.le {s:List C × List (List C)} (h:SI nb all s):s.1.length <= all.length:=zKj h.nd h.sub
theorem SI.lines_le {s:List C × List (List C)} (h:SI nb all s):s.2.length <= s.1.length:=by
 rw [← h.flat]
 have key:∀ L:List (List C), (∀ r ∈ L, 0 < r.length) -> L.length <= L.flatten.length:=by
  intro L
  induction L with
  | nil=>intro _; simp
  | cons a L ih=>
   intro hL
   have h1:=hL a (by simp)
   have h2:=ih fun r hr=>hL r (by simp [hr])
   rw [List.flatten_cons, List.length_append, List.length_cons]; omega
 exact key _ fun r hr=>(h.lines r hr).pos
end Go.Gr
namespace Go.Av
open Go.Gr
end Go.Av
end
section
namespace Go.Av
set_option maxRecDepth 100000
def zHq (B:Nat) (J:List (Cr × List Cr)):List (Cr × EV):=J.mapIdx fun i p=>(p.1, EV.psl (B + i) p.2.length)
theorem zNt (B:Nat) (J:List (Cr × List Cr)):(zHq B J).length = J.length:=by simp [zHq]
theorem zJ8 (B:Nat) (J:List (Cr × List Cr)):(zHq B J).map (·.1) = J.map (·.1):=by
 apply List.ext_getElem?
 intro i
 simp only[zHq, List.getElem?_map, List.getElem?_mapIdx]
 cases J[i]? <;> rfl
theorem zOi {B i:Nat} {J:List (Cr × List Cr)} {a:Cr} {l:List Cr} (h:J[i]? = some (a, l)):(zHq B J)[i]? = some (a, EV.psl (B + i) l.length):=by simp [zHq, List.getElem?_mapIdx, h]
theorem zMf (B:Nat) (J:List (Cr × List Cr)) (p:Cr × List Cr):zHq B (J ++ [p]) = zHq B J ++ [(p.1, EV.psl (B + J.length) p.2.length)]:=by simp [zHq, List.mapIdx_append]
theorem zNl {B i:Nat} {J:List (Cr × List Cr)} {a:Cr} {l:List Cr}:zHq B (J.set i (a, l)) = (zHq B J).set i (a, EV.psl (B + i) l.length):=by
 apply List.ext_getElem?
 intro j
 simp only[zHq, List.getElem?_mapIdx, List.getElem?_set, List.length_mapIdx]
 by_cases h:i = j
 ·
  subst h
  by_cases h2:i < J.length
  ·
   simp [h2]
  ·
   simp [h2]
 ·
  simp [h]
theorem zJH {a b:Cr} {J:List (Cr × List Cr)} (B:Nat) (d:EV) (h:kV a (J.map (·.1)) = none):
  zHu a d (zHq B J) = d /\ jnA a b J = J ++ [(a, [b])] /\ yh a (.psl (B + J.length) 1) (zHq B J) = zHq B (jnA a b J) /\ zHu a [] J = []:=by
 have hk:kV a ((zHq B J).map (·.1)) = none:=by rw [zJ8]; exact h
 have h1:=((zhh a ([]:List Cr) J).1 h).1
 have h2:jnA a b J = J ++ [(a, [b])]:=by unfold jnA; rw [(zep a _ J).1 h, h1]; rfl
 exact ⟨((zhh a d _).1 hk).1, h2, by rw [(zep a _ _).1 hk, h2, zMf]; rfl, h1⟩
theorem zJi {a b:Cr} {J:List (Cr × List Cr)} (B:Nat) (d:EV) {i:Nat} (h:kV a (J.map (·.1)) = some i):
  J[i]? = some (a, zHu a [] J) /\ zHu a d (zHq B J) = .psl (B + i) (zHu a [] J).length /\ jnA a b J = J.set i (a, zHu a [] J ++ [b]) /\
   yh a (.psl (B + i) ((zHu a [] J).length + 1)) (zHq B J) = zHq B (jnA a b J) /\ i < J.length:=by
 have hk:kV a ((zHq B J).map (·.1)) = some i:=by rw [zJ8]; exact h
 obtain ⟨l, h1, h2, _⟩:=(zhh a ([]:List Cr) J).2 i h
 rw [h2]
 obtain ⟨x, h3, h4, _⟩:=(zhh a d (zHq B J)).2 i hk
 rw [zOi h1] at h3
 injection h3 with h3
 injection h3 with _ h3
 have h5:jnA a b J = J.set i (a, l ++ [b]):=by unfold jnA; rw [(zep a _ J).2 i h, h2]
 exact ⟨h1, by rw [h4, ← h3], h5, by rw [(zep a _ _).2 i hk, h5, zNl]; simp, (zLg h1).1⟩
def zIk (f:Cr -> List EV) (J:List (Cr × List Cr)):List PO:=J.map fun p=>.row (p.2.map f)
theorem zHy (f:Cr -> List EV) (J:List (Cr × List Cr)):(zIk f J).length = J.length:=by simp [zIk]
theorem zSP {f:Cr -> List EV} {J:List (Cr × List Cr)} {p:Cr × List Cr}:zIk f (J ++ [p]) = zIk f J ++ [.row (p.2.map f)]:=by simp [zIk]
theorem zNp {f:Cr -> List EV} {J:List (Cr × List Cr)} {i:Nat} {a:Cr} {l:List Cr}:zIk f (J.set i (a, l)) = (zIk f J).set i (.row (l.map f)):=by simp [zIk, List.map_set]
theorem zSB {f:Cr -> List EV} {J:List (Cr × List Cr)} {i:Nat} {a:Cr} {l:List Cr} (h:J[i]? = some (a, l)):(zIk f J)[i]? = some (.row (l.map f)):=by simp [zIk, h]
end Go.Av
end
