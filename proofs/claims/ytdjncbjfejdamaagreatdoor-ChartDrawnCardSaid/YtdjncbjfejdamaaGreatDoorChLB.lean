import Derived.Test.YtdjncbjfejdamaaGreatDoorChLA
set_option linter.unusedVariables false
set_option linter.unusedSimpArgs false
section
namespace Go.Av
open Go.Gr
set_option maxRecDepth 100000
def zSW (w p:Nat):List Nat:=[p, p + 1, p + w, p + w + 1]
def zSU (w:Nat) (x:Cr) (p:Nat):Bool:=(zSW w p).contains x.1 && (zSW w p).contains x.2
def zSZ (w r:Nat) (x:Cr):List Nat:=(wP w r).filter (zSU w x)
def zTH (w r:Nat):Bool:=(wP w r).all fun c=>(zSW w c).all fun a=>(zSW w c).all fun b=>!zIn w a b || (zHC w c).contains (min a b, max a b)
theorem zTO:((List.range 7).all fun w=>(List.range 6).all fun r=>zTH w r) = true:=by decide +kernel
theorem zT8 {w r:Nat} (hw:w <= 6) (hr:r <= 5):zTH w r = true:=by
 have h:=zTO
 rw [List.all_eq_true] at h
 have h2:=h w (List.mem_range.2 (by omega))
 rw [List.all_eq_true] at h2
 exact h2 r (List.mem_range.2 (by omega))
section
variable {h:Nat -> Bool} {w r:Nat}
theorem zS2 {p:Nat} {x:Cr} (hx:x ∈ cellL h w p):zSU w x p = true:=by
 unfold cellL at hx
 rw [List.mem_filterMap] at hx
 obtain ⟨s, hs, e⟩:=hx
 have hc:s.1 ∈ zSW w p /\ s.2 ∈ zSW w p:=by
  simp only[zHC, List.mem_cons, List.not_mem_nil, or_false] at hs
  rcases hs with rfl | rfl | rfl | rfl <;> simp [zSW]
 unfold crO at e
 unfold zSU
 rw [zLa, List.contains_iff_mem, List.contains_iff_mem]
 cases ha:h s.1 <;> cases hb:h s.2 <;> simp [ha, hb] at e
 ·
  subst e; exact hc
 ·
  subst e; exact ⟨hc.2, hc.1⟩
theorem zS4 {p:Nat} {x:Cr} (hw6:w <= 6) (hr:r <= 5) (hp:p ∈ wP w r) (hx:x ∈ zH1 h w r) (hc:zSU w x p = true):x ∈ cellL h w p:=by
 have hg:=zT8 hw6 hr
 unfold zTH at hg
 simp only[List.all_eq_true, Bool.or_eq_true, Bool.not_eq_true'] at hg
 obtain ⟨h1, h2, h3, h4, h5⟩:=zOr.1 hx
 unfold zSU at hc
 rw [zLa, List.contains_iff_mem, List.contains_iff_mem] at hc
 have hs:=(hg p hp x.1 hc.1 x.2 hc.2).resolve_left (by rw [h3]; simp)
 rw [List.contains_iff_mem] at hs
 unfold cellL
 rw [List.mem_filterMap]
 refine ⟨_, hs, ?_⟩
 show crO h (min x.1 x.2) (max x.1 x.2) = some x
 unfold crO
 by_cases hle:x.1 <= x.2
 ·
  rw [Nat.min_eq_left hle, Nat.max_eq_right hle, h4, h5]; rfl
 ·
  rw [Nat.min_eq_right (by omega), Nat.max_eq_left (by omega), h4, h5]; rfl
theorem zTU {x:Cr} (hw:1 < w) (hw6:w <= 6) (hr:r <= 5) (hx:x ∈ zH1 h w r):(zSZ w r x).length = (nbC h w r x).length:=by
 unfold nbC
 rw [zIA]
 unfold zSZ pts
 have key:∀ L:List Nat, (∀ p ∈ L, p ∈ wP w r) -> (L.filter (zSU w x)).length = (L.filterMap fun p=>ptO h w p x).length:=by
  intro L
  induction L with
  | nil=>intro _; rfl
  | cons p L ih=>
   intro hL
   have ih:=ih fun q hq=>hL q (List.mem_cons_of_mem _ hq)
   rw [List.filter_cons, List.filterMap_cons]
   cases hc:zSU w x p with
   | true=>
    obtain ⟨y, hy⟩:=zT5 hw (zS4 hw6 hr (hL p (List.mem_cons_self ..)) hx hc)
    rw [hy, if_pos rfl]
    simp only[List.length_cons, ih]
   | false=>
    have hn:ptO h w p x = none:=by
     cases hp:ptO h w p x with
     | none=>rfl
     | some y=>rw [zS2 (zID hw hp).1] at hc; cases hc
    rw [hn]
    simpa using ih
 exact key _ fun p hp=>hp
theorem zSX {x:Cr} (hw6:w <= 6) (hr:r <= 5) (hx:x ∈ zH1 h w r):(zSZ w r x).length = (nbC h w r x).length:=by
 by_cases hw:1 < w
 ·
  exact zTU hw hw6 hr hx
 ·
  unfold zSZ nbC pts
  rw [zIA, cells_one (by omega)]; rfl
theorem zTw {x y:Cr} (hw6:w <= 6) (hr:r <= 5) (hy:y ∈ nbC h w r x):∃ p ∈ wP w r, ptO h w p x = some y /\ zSU w x p = true /\ zSU w y p = true /\ ∀ q ∈ wP w r, zSU w x q = true -> zSU w y q = true -> q = p:=by
 have hy':=zJb.1 hy
 obtain ⟨p, hp, e⟩:=zJo.1 hy'
 by_cases hw:1 < w
 ·
  obtain ⟨a1, a2, a3, a4⟩:=zID hw e
  refine ⟨p, hp, e, zS2 a1, zS2 a2, fun q hq b1 b2=>?_⟩
  have hx:=zOK hw6 hr hp a1
  have hya:=zOK hw6 hr hp a2
  have c1:=zS4 hw6 hr hq hx b1
  have c2:=zS4 hw6 hr hq hya b2
  have hg:=geo hw6 hr
  unfold geoB at hg
  simp only[zLa, List.all_eq_true, Bool.or_eq_true, beq_iff_eq, decide_eq_true_eq] at hg
  rcases hg.1 q hq p hp with h1 | h1
  ·
   exact h1
  ·
   exfalso
   have d1:zIe x ∈ (zHC w q).filter fun s=>(zHC w p).contains s:=by
    rw [List.mem_filter]; exact ⟨zH3 (by omega) c1, by simpa using zH3 (by omega) a1⟩
   have d2:zIe y ∈ (zHC w q).filter fun s=>(zHC w p).contains s:=by
    rw [List.mem_filter]; exact ⟨zH3 (by omega) c2, by simpa using zH3 (by omega) a2⟩
   have hne:zIe x ≠ zIe y:=fun e=>a3 (zOP (by omega) a1 a2 e)
   match hL:(zHC w q).filter (fun s=>(zHC w p).contains s), h1 with
   | [], _=>rw [hL] at d1; cases d1
   | [z], _=>
    rw [hL, List.mem_singleton] at d1 d2
    exact hne (d1.trans d2.symm)
   | z :: z2 :: t, h1=>simp at h1
 ·
  rw [cells_one (by omega)] at hp; cases hp
theorem zTg {l:List Cr} (hw6:w <= 6) (hr:r <= 5) (hl:LOK (nbC h w r) (zH1 h w r) l) (h2:2 < l.length) (hc:(zSZ w r (l[0]'hl.pos)).length = 2):l[0]'hl.pos ∈ nbC h w r (l[l.length - 1]'(by omega)):=by
 have G:=zMI (h:=h) hw6 hr
 rw [zSX hw6 hr (hl.sub _ (List.getElem_mem _))] at hc
 have h1:=hl.pth.st 0 (by omega)
 obtain ⟨z, hz, hne⟩:=other hc (G.nd _ (hl.sub _ (List.getElem_mem _))) h1
 have hzl:=hl.cl _ (List.getElem_mem hl.pos) z hz
 obtain ⟨j, hj, rfl⟩:=List.mem_iff_getElem.1 hzl
 have hz0:=G.sym _ (hl.sub _ (List.getElem_mem _)) _ hz
 by_cases hlast:j = l.length - 1
 ·
  subst hlast; exact hz0
 ·
  exfalso
  have hj0:j ≠ 0:=fun e=>by subst e; exact G.irr _ (hl.sub _ (List.getElem_mem _)) hz
  obtain ⟨i, rfl⟩:∃ i, j = i + 1:=⟨j - 1, by omega⟩
  rcases inner G hl.pth hl.sub (i:=i) (by omega) _ hz0 with e | e
  ·
   have:=zKs hl.pth.nd e
   subst this
   exact hne rfl
  ·
   have:=zKs hl.pth.nd e
   omega
end
end Go.Av
end
section
namespace Go.Av
open Go.Gr
set_option maxRecDepth 100000
def atL (c:List Nat) (x:Cr) (g:Bool):Nat -> Option Nat
 | 0=>none
 | n + 1=>
  let k:=4 - (n + 1)
  bif c.getD k 0 == x.1 && c.getD ((k + 1) % 4) 0 == x.2 then some (bif g then 10 * k + 6 else 10 * k + 3)
  else bif c.getD k 0 == x.2 && c.getD ((k + 1) % 4) 0 == x.1 then some (bif g then 10 * k + 3 else 10 * k + 6)
  else atL c x g n
def zPq (w p:Nat):List Nat:=[p, p + 1, p + w + 1, p + w]
def ord4:List Nat:=[0, 1, 3, 2]
def zVq (a b r s:Nat):Bool:=(decide (min a b < r) && decide (r < max a b)) == (decide (min a b < s) && decide (s < max a b))
def zVD (a b r s:Option Nat):Bool:=match a, b, r, s with
 | some a, some b, some r, some s=>zVq a b r s
 | _, _, _, _=>false
theorem zVM:∀ b0 b1 b2 b3 c0 c1 c2 c3:Bool, (c0 && !b0 || c1 && !b1 || c2 && !b2 || c3 && !b3) = true ∨ ((zHK (zHW b0 b1 b2 b3)).all fun x=>(zHK (zHW c0 c1 c2 c3)).all fun y=>
  match pt4 (zHW b0 b1 b2 b3) x, pt4 (zHW c0 c1 c2 c3) y with
  | some x2, some y2=>zVD (atL ord4 x false 4) (atL ord4 x2 false 4) (atL ord4 y true 4) (atL ord4 y2 true 4)
  | _, _=>true) = true:=by decide +kernel
section
variable {h:Nat -> Bool} {w r:Nat}
theorem zUM {p:Nat} {x:Cr} {g:Bool} (hw:1 < w) (hx:x.1 < 4 /\ x.2 < 4):∀ n, n <= 4 -> atL (zPq w p) (zHD w p x) g n = atL ord4 x g n
 | 0, _=>rfl
 | n + 1, hn=>by
  have e:∀ k, k < 4 -> (zPq w p).getD k 0 = cor w p (ord4.getD k 0) /\ ord4.getD k 0 < 4:=fun k hk=>by
   have:k = 0 ∨ k = 1 ∨ k = 2 ∨ k = 3:=by omega
   rcases this with rfl | rfl | rfl | rfl <;> exact ⟨rfl, by decide⟩
  have h1:=e (4 - (n + 1)) (by omega)
  have h2:=e ((4 - (n + 1) + 1) % 4) (Nat.mod_lt _ (by omega))
  unfold atL
  simp only[h1.1, h2.1]
  show (bif cor w p (ord4.getD (4 - (n + 1)) 0) == cor w p x.1 && cor w p (ord4.getD ((4 - (n + 1) + 1) % 4) 0) == cor w p x.2 then _ else bif cor w p (ord4.getD (4 - (n + 1)) 0) == cor w p x.2 && cor w p (ord4.getD ((4 - (n + 1) + 1) % 4) 0) == cor w p x.1 then _ else _) = _
  rw [zJt hw h1.2 hx.1, zJt hw h2.2 hx.2, zJt hw h1.2 hx.2, zJt hw h2.2 hx.1, zUM hw hx n (by omega)]
theorem zU2 {h2:Nat -> Bool} {p:Nat} {x x2 y y2:Cr} (hw:1 < w) (hle:∀ k, h2 k = true -> h k = true) (e1:ptO h w p x = some x2) (e2:ptO h2 w p y = some y2):
  ∃ a b r s, atL (zPq w p) x false 4 = some a /\ atL (zPq w p) x2 false 4 = some b /\ atL (zPq w p) y true 4 = some r /\ atL (zPq w p) y2 true 4 = some s /\ zVq a b r s = true:=by
 have a1:=(zID hw e1).1
 have b1:=(zID hw e2).1
 rw [zH8] at a1 b1
 obtain ⟨x', hx', rfl⟩:=List.mem_map.1 a1
 obtain ⟨y', hy', rfl⟩:=List.mem_map.1 b1
 rw [zK4 hw hx'] at e1
 rw [zK4 hw hy'] at e2
 obtain ⟨x2', f1, rfl⟩:=Option.map_eq_some_iff.1 e1
 obtain ⟨y2', f2, rfl⟩:=Option.map_eq_some_iff.1 e2
 have m1:x2' ∈ zHK (zHE h w p):=by
  unfold pt4 at f1
  rw [show (zHK (zHE h w p)).contains x' = true from by simpa using hx'] at f1
  exact List.mem_of_find?_eq_some f1
 have m2:y2' ∈ zHK (zHE h2 w p):=by
  unfold pt4 at f2
  rw [show (zHK (zHE h2 w p)).contains y' = true from by simpa using hy'] at f2
  exact List.mem_of_find?_eq_some f2
 have hk:=zVM (h p) (h (p + 1)) (h (p + w)) (h (p + w + 1)) (h2 p) (h2 (p + 1)) (h2 (p + w)) (h2 (p + w + 1))
 have hno:(h2 p && !h p || h2 (p + 1) && !h (p + 1) || h2 (p + w) && !h (p + w) || h2 (p + w + 1) && !h (p + w + 1)) = false:=by
  have q:∀ k, (h2 k && !h k) = false:=fun k=>by
   cases h3:h2 k with
   | false=>rfl
   | true=>rw [hle k h3]; rfl
  rw [q, q, q, q]; rfl
 have hk:=hk.resolve_left (by rw [hno]; simp)
 rw [List.all_eq_true] at hk
 have hk:=hk x' hx'
 rw [List.all_eq_true] at hk
 have hk:=hk y' hy'
 rw [show pt4 (zHW (h p) (h (p + 1)) (h (p + w)) (h (p + w + 1))) x' = some x2' from f1, show pt4 (zHW (h2 p) (h2 (p + 1)) (h2 (p + w)) (h2 (p + w + 1))) y' = some y2' from f2] at hk
 simp only at hk
 rw [zUM hw (zIM _ hx') 4 (by omega), zUM hw (zIM _ m1) 4 (by omega), zUM hw (zIM _ hy') 4 (by omega), zUM hw (zIM _ m2) 4 (by omega)]
 unfold zVD at hk
 split at hk
 ·
  rename_i a b r s q1 q2 q3 q4
  exact ⟨a, b, r, s, q1, q2, q3, q4, hk⟩
 ·
  cases hk
end
end Go.Av
end
section
namespace Go.Av
open Go.Gr
set_option maxRecDepth 100000
section
variable {h:Nat -> Bool} {w r:Nat}
end
end Go.Av
end
section
namespace Go.Gr
set_option linter.unusedSectionVars false
variable {C:Type} [DecidableEq C] {nb:C -> List C} {all met R:List C}
structure FI (nb:C -> List C) (all met R:List C) (n:Nat) (t:List C) (x:C):Prop where
 pth:Pth nb (t ++ [x])
 sub:∀ y ∈ t ++ [x], y ∈ all
 nm:∀ y ∈ t ++ [x], y ∉ met
 len:all.length <= n + t.length
 eq:goW nb met n t x = R
def nxW (nb:C -> List C) (met out:List C) (x:C):Option C:=(nb x).find? fun y=>!decide (y ∈ met) && !decide (y ∈ out)
theorem FI.start {x:C} {N:Nat} (hx:x ∈ all) (hm:x ∉ met) (hN:all.length <= N):FI nb all met (goW nb met N [] x) N [] x:=
 ⟨⟨by simp, fun i hi=>by simp at hi⟩, fun y hy=>by simp at hy; subst hy; exact hx, fun y hy=>by simp at hy; subst hy; exact hm, by simpa using hN, rfl⟩
theorem FI.stop {n:Nat} {t:List C} {x:C} (h:FI nb all met R n t x) (e:nxW nb met (t ++ [x]) x = none):R = t ++ [x]:=by
 have he:=h.eq
 cases n with
 | zero=>exact he.symm
 | succ n=>
  unfold goW at he
  unfold nxW at e
  rw [e] at he
  exact he.symm
theorem zKj {l m:List C} (hl:l.Nodup) (hs:∀ y ∈ l, y ∈ m):l.length <= m.length:=List.Nodup.length_le_of_subset hl hs
theorem FI.go (cl:∀ x ∈ all, ∀ y ∈ nb x, y ∈ all) {n:Nat} {t:List C} {x y:C} (h:FI nb all met R n t x) (e:nxW nb met (t ++ [x]) x = some y):∃ m, n = m + 1 /\ FI nb all met R m (t ++ [x]) y:=by
 have hx:=h.sub x (by simp)
 have hy:=List.mem_of_find?_eq_some e
 have hp:=List.find?_some e
 simp only[zLa, Bool.not_eq_true', decide_eq_false_iff_not] at hp
 have hya:=cl x hx y hy
 cases n with
 | zero=>
  exfalso
  have h1:=h.pth.push hy hp.2
  have h2:=zKj h1.nd (m:=all) (fun z hz=>by
   rcases List.mem_append.1 hz with hz | hz
   ·
    exact h.sub z hz
   ·
    simp at hz; subst hz; exact hya)
  have:=h.len
  simp at h2
  omega
 | succ m=>
  refine ⟨m, rfl, h.pth.push hy hp.2, fun z hz=>?_, fun z hz=>?_, ?_, ?_⟩
  ·
   rcases List.mem_append.1 hz with hz | hz
   ·
    exact h.sub z hz
   ·
    simp at hz; subst hz; exact hya
  ·
   rcases List.mem_append.1 hz with hz | hz
   ·
    exact h.nm z hz
   ·
    simp at hz; subst hz; exact hp.1
  ·
   have:=h.len; simp; omega
  ·
   have he:=h.eq
   unfold goW at he
   unfold nxW at e
   rw [e] at he
   exact he
theorem FI.lenR {n:Nat} {t:List C} {x:C} (h:FI nb all met R n t x):t.length + 1 <= all.length:=by
 have:=zKj h.pth.nd (m:=all) h.sub
 simpa using this
def phS (nb:C -> List C) (N most:Nat) (s:List C × List (List C)) (c:C):List C × List (List C):=if c ∈ s.1 ∨ most < (nb c).length then s else (s.1 ++ goW nb s.1 N [] c, s.2 ++ [goW nb s.1 N [] c])
theorem zRS {N most:Nat}:∀ (cs:List C) (s:List C × List (List C)), ph nb N most cs s = cs.foldl (phS nb N most) s
 | [], s=>rfl
 | c :: cs, s=>by rw [List.foldl_cons]; exact zRS cs _
def phK (nb:C -> List C) (all:List C) (N most:Nat) (s:List C × List (List C)) (k:Nat):List C × List (List C):=(all.take k).foldl (phS nb N most) s
theorem zRc {N most:Nat} {s:List C × List (List C)}:phK nb all N most s 0 = s:=by unfold phK; simp
theorem zSl {N most:Nat} {s:List C × List (List C)} {k:Nat} (hk:k < all.length):phK nb all N most s (k + 1) = phS nb N most (phK nb all N most s k) all[k]:=by
 unfold phK; rw [List.take_add_one, List.getElem?_eq_getElem hk, Option.toList_some, List.foldl_append]; rfl
theorem zPi {N most:Nat} {s:List C × List (List C)}:phK nb all N most s all.length = ph nb N most all s:=by unfold phK; rw [List.take_length, zRS]
theorem zPj (G:Gph nb all) {N most:Nat} (hN:all.length <= N) (hmost:most <= 1 ∨ 2 <= most) {s:List C × List (List C)} (hs:SI nb all s) (h2:2 <= most -> ∀ x ∈ all, x ∉ s.1 -> (nb x).length = 2) (k:Nat):SI nb all (phK nb all N most s k):=by
 unfold phK; rw [← zRS]; exact zKb G hN hmost _ _ (fun c hc=>List.mem_of_mem_take hc) hs h2
theorem SI.nil:SI nb all (([], []):List C × List (List C)):=⟨rfl, by simp, by simp⟩
theorem zPz (G:Gph nb all) {N:Nat}:∀ x ∈ all, x ∉ (ph nb N 1 all ([], [])).1 -> (nb x).length = 2:=fun x hx hn=>by
 have hw:∀ (met:List C) (c:C), c ∈ goW nb met N [] c:=fun met c=>zJ1 N [] c c (by simp)
 have h1:=G.two x hx
 have h2:¬ (nb x).length <= 1:=fun h=>hn (zRV hw all _ x hx h)
 omega
theorem SI.le {s:List C × List (List C)} (h:SI nb all s):s.1.length <= all.length:=zKj h.nd h.sub
theorem SI.lines_le {s:List C × List (List C)} (h:SI nb all s):s.2.length <= s.1.length:=by
 rw [← h.flat]
 have key:∀ L:List (List C), (∀ r ∈ L, 0 < r.length) -> L.length <= L.flatten.length:=by
  intro L
  induction L with
  | nil=>intro _; simp
  | cons a L ih=>
   intro hL
   have h1:=hL a (by simp)
   have h2:=ih fun r hr=>hL r (by simp [hr])
   rw [List.flatten_cons, List.length_append, List.length_cons]; omega
 exact key _ fun r hr=>(h.lines r hr).pos
end Go.Gr
namespace Go.Av
open Go.Gr
end Go.Av
end
section
namespace Go.Av
set_option maxRecDepth 100000
def zHq (B:Nat) (J:List (Cr × List Cr)):List (Cr × EV):=J.mapIdx fun i p=>(p.1, EV.psl (B + i) p.2.length)
theorem zNt (B:Nat) (J:List (Cr × List Cr)):(zHq B J).length = J.length:=by simp [zHq]
theorem zJ8 (B:Nat) (J:List (Cr × List Cr)):(zHq B J).map (·.1) = J.map (·.1):=by
 apply List.ext_getElem?
 intro i
 simp only[zHq, List.getElem?_map, List.getElem?_mapIdx]
 cases J[i]? <;> rfl
theorem zOi {B i:Nat} {J:List (Cr × List Cr)} {a:Cr} {l:List Cr} (h:J[i]? = some (a, l)):(zHq B J)[i]? = some (a, EV.psl (B + i) l.length):=by simp [zHq, List.getElem?_mapIdx, h]
theorem zMf (B:Nat) (J:List (Cr × List Cr)) (p:Cr × List Cr):zHq B (J ++ [p]) = zHq B J ++ [(p.1, EV.psl (B + J.length) p.2.length)]:=by simp [zHq, List.mapIdx_append]
theorem zNl {B i:Nat} {J:List (Cr × List Cr)} {a:Cr} {l:List Cr}:zHq B (J.set i (a, l)) = (zHq B J).set i (a, EV.psl (B + i) l.length):=by
 apply List.ext_getElem?
 intro j
 simp only[zHq, List.getElem?_mapIdx, List.getElem?_set, List.length_mapIdx]
 by_cases h:i = j
 ·
  subst h
  by_cases h2:i < J.length
  ·
   simp [h2]
  ·
   simp [h2]
 ·
  simp [h]
theorem zJH {a b:Cr} {J:List (Cr × List Cr)} (B:Nat) (d:EV) (h:kV a (J.map (·.1)) = none):
  zHu a d (zHq B J) = d /\ jnA a b J = J ++ [(a, [b])] /\ yh a (.psl (B + J.length) 1) (zHq B J) = zHq B (jnA a b J) /\ zHu a [] J = []:=by
 have hk:kV a ((zHq B J).map (·.1)) = none:=by rw [zJ8]; exact h
 have h1:=((zhh a ([]:List Cr) J).1 h).1
 have h2:jnA a b J = J ++ [(a, [b])]:=by unfold jnA; rw [(zep a _ J).1 h, h1]; rfl
 exact ⟨((zhh a d _).1 hk).1, h2, by rw [(zep a _ _).1 hk, h2, zMf]; rfl, h1⟩
theorem zJi {a b:Cr} {J:List (Cr × List Cr)} (B:Nat) (d:EV) {i:Nat} (h:kV a (J.map (·.1)) = some i):
  J[i]? = some (a, zHu a [] J) /\ zHu a d (zHq B J) = .psl (B + i) (zHu a [] J).length /\ jnA a b J = J.set i (a, zHu a [] J ++ [b]) /\
   yh a (.psl (B + i) ((zHu a [] J).length + 1)) (zHq B J) = zHq B (jnA a b J) /\ i < J.length:=by
 have hk:kV a ((zHq B J).map (·.1)) = some i:=by rw [zJ8]; exact h
 obtain ⟨l, h1, h2, _⟩:=(zhh a ([]:List Cr) J).2 i h
 rw [h2]
 obtain ⟨x, h3, h4, _⟩:=(zhh a d (zHq B J)).2 i hk
 rw [zOi h1] at h3
 injection h3 with h3
 injection h3 with _ h3
 have h5:jnA a b J = J.set i (a, l ++ [b]):=by unfold jnA; rw [(zep a _ J).2 i h, h2]
 exact ⟨h1, by rw [h4, ← h3], h5, by rw [(zep a _ _).2 i hk, h5, zNl]; simp, (zLg h1).1⟩
def zIk (f:Cr -> List EV) (J:List (Cr × List Cr)):List PO:=J.map fun p=>.row (p.2.map f)
theorem zHy (f:Cr -> List EV) (J:List (Cr × List Cr)):(zIk f J).length = J.length:=by simp [zIk]
theorem zSP {f:Cr -> List EV} {J:List (Cr × List Cr)} {p:Cr × List Cr}:zIk f (J ++ [p]) = zIk f J ++ [.row (p.2.map f)]:=by simp [zIk]
theorem zNp {f:Cr -> List EV} {J:List (Cr × List Cr)} {i:Nat} {a:Cr} {l:List Cr}:zIk f (J.set i (a, l)) = (zIk f J).set i (.row (l.map f)):=by simp [zIk, List.map_set]
theorem zSB {f:Cr -> List EV} {J:List (Cr × List Cr)} {i:Nat} {a:Cr} {l:List Cr} (h:J[i]? = some (a, l)):(zIk f J)[i]? = some (.row (l.map f)):=by simp [zIk, h]
end Go.Av
end
