import Derived.Test.YtdjncbjfejdamaaGreatDoorPlatH
set_option linter.unusedVariables false
set_option linter.unusedSimpArgs false
section
namespace Go.Gr
variable {C:Type} [DecidableEq C] (nb:C -> List C)
def goW (met:List C):Nat -> List C -> C -> List C
 | 0, out, x=>out ++ [x]
 | n + 1, out, x=>match (nb x).find? fun y=>!decide (y ∈ met) && !decide (y ∈ out ++ [x]) with
  | none=>out ++ [x]
  | some y=>goW met n (out ++ [x]) y
structure Pth (r:List C):Prop where
 nd:r.Nodup
 st:∀ i (h:i + 1 < r.length), r[i + 1] ∈ nb r[i]
variable {nb}
theorem Pth.push {out:List C} {x y:C} (h:Pth nb (out ++ [x])) (hy:y ∈ nb x) (hn:y ∉ out ++ [x]):Pth nb (out ++ [x] ++ [y]):=by
 have _:=(inferInstance:DecidableEq C)
 refine ⟨?_, fun i hi=>?_⟩
 ·
  rw [List.nodup_append]
  exact ⟨h.nd, by simp, fun a ha b hb=>by simp at hb; subst hb; intro e; subst e; exact hn ha⟩
 ·
  simp only[List.length_append, List.length_cons, List.length_nil] at hi
  by_cases h1:i + 1 < (out ++ [x]).length
  ·
   rw [List.getElem_append_left h1, List.getElem_append_left (by omega)]
   exact h.st i h1
  ·
   simp only[List.length_append, List.length_cons, List.length_nil] at h1
   have e:i = out.length:=by omega
   subst e
   have e1:(out ++ [x] ++ [y])[out.length + 1]'(by simp) = y:=by rw [List.getElem_append_right (by simp)]; simp
   have e2:(out ++ [x] ++ [y])[out.length]'(by simp) = x:=by rw [List.getElem_append_left (by simp), List.getElem_append_right (by simp)]; simp
   rw [e1, e2]; exact hy
theorem zSh {met all:List C} (hcl:∀ x ∈ all, ∀ y ∈ nb x, y ∈ all):∀ (n:Nat) (out:List C) (x:C), Pth nb (out ++ [x]) -> (∀ y ∈ out ++ [x], y ∈ all) -> (∀ y ∈ out ++ [x], y ∉ met) -> all.length <= n + out.length ->
  ∃ t e, goW nb met n out x = t ++ [e] /\ (∃ s, t ++ [e] = out ++ [x] ++ s) /\ Pth nb (t ++ [e]) /\ (∀ y ∈ t ++ [e], y ∈ all) /\ (∀ y ∈ t ++ [e], y ∉ met) /\ ∀ y ∈ nb e, y ∈ met ∨ y ∈ t ++ [e]
 | 0, out, x, hp, ha, hm, hn=>by
  exfalso
  have h1:=List.Nodup.length_le_of_subset hp.nd ha
  simp at h1; omega
 | n + 1, out, x, hp, ha, hm, hn=>by
  unfold goW
  cases hf:(nb x).find? fun y=>!decide (y ∈ met) && !decide (y ∈ out ++ [x]) with
  | none=>
   refine ⟨out, x, rfl, ⟨[], by simp⟩, hp, ha, hm, fun y hy=>?_⟩
   have:=List.find?_eq_none.1 hf y hy
   simp only[zLa, Bool.not_eq_true', decide_eq_false_iff_not] at this
   by_cases h1:y ∈ met
   ·
    exact .inl h1
   ·
    exact .inr (Classical.byContradiction fun h2=>this ⟨h1, h2⟩)
  | some y=>
   have h1:=List.find?_some hf
   have h2:=List.mem_of_find?_eq_some hf
   simp only[zLa, Bool.not_eq_true', decide_eq_false_iff_not] at h1
   have hx:x ∈ all:=ha x (by simp)
   obtain ⟨t, e, g1, ⟨s, g2⟩, g3, g4, g5, g6⟩:=zSh hcl n (out ++ [x]) y (hp.push h2 h1.2) (fun z hz=>by
    rcases List.mem_append.1 hz with hz | hz
    ·
     exact ha z hz
    ·
     simp at hz; subst hz; exact hcl x hx _ h2) (fun z hz=>by
    rcases List.mem_append.1 hz with hz | hz
    ·
     exact hm z hz
    ·
     simp at hz; subst hz; exact h1.1) (by simp; omega)
   exact ⟨t, e, g1, ⟨[y] ++ s, by rw [g2]; simp⟩, g3, g4, g5, g6⟩
structure Gph (nb:C -> List C) (all:List C):Prop where
 cl:∀ x ∈ all, ∀ y ∈ nb x, y ∈ all
 sym:∀ x ∈ all, ∀ y ∈ nb x, x ∈ nb y
 irr:∀ x ∈ all, x ∉ nb x
 nd:∀ x ∈ all, (nb x).Nodup
 two:∀ x ∈ all, (nb x).length <= 2
theorem zKs {l:List C} (h:l.Nodup) {i j:Nat} {hi:i < l.length} {hj:j < l.length} (e:l[i] = l[j]):i = j:=by
 have _:=(inferInstance:DecidableEq C)
 rw [List.nodup_iff_pairwise_ne] at h
 rw [List.pairwise_iff_getElem] at h
 rcases Nat.lt_trichotomy i j with h1 | h1 | h1
 ·
  exact absurd e (h i j hi hj h1)
 ·
  exact h1
 ·
  exact absurd e.symm (h j i hj hi h1)
theorem zNa {l:List C} (h2:l.length <= 2) {a b:C} (ha:a ∈ l) (hb:b ∈ l) (hab:a ≠ b):∀ c ∈ l, c = a ∨ c = b:=by
 have _:=(inferInstance:DecidableEq C)
 match l, h2 with
 | [], _=>cases ha
 | [x], _=>simp at ha hb; subst ha; subst hb; exact absurd rfl hab
 | [x, y], _=>
  simp at ha hb
  intro c hc
  simp at hc
  rcases ha with rfl | rfl <;> rcases hb with rfl | rfl <;> rcases hc with rfl | rfl <;> simp_all
theorem other {l:List C} (h2:l.length = 2) (hn:l.Nodup) {a:C} (ha:a ∈ l):∃ b ∈ l, b ≠ a:=by
 have _:=(inferInstance:DecidableEq C)
 match l, h2 with
 | [x, y], _=>
  simp at ha hn
  rcases ha with rfl | rfl
  ·
   exact ⟨y, by simp, fun e=>hn e.symm⟩
  ·
   exact ⟨x, by simp, hn⟩
section
variable {all:List C} (G:Gph nb all) {r:List C} (hp:Pth nb r) (ha:∀ y ∈ r, y ∈ all)
include G hp ha
theorem inner {i:Nat} (hi:i + 2 < r.length):∀ y ∈ nb r[i + 1], y = r[i] ∨ y = r[i + 2]:=by
 have hm:r[i + 1] ∈ all:=ha _ (List.getElem_mem _)
 have h1:r[i] ∈ nb r[i + 1]:=G.sym _ (ha _ (List.getElem_mem _)) _ (hp.st i (by omega))
 have h2:r[i + 2] ∈ nb r[i + 1]:=hp.st (i + 1) hi
 exact zNa (G.two _ hm) h1 h2 (fun e=>by have:=zKs hp.nd e; omega)
theorem zMS {j:Nat} (hj:j + 1 < r.length) (h:r[j] ∈ nb r[r.length - 1]):j + 2 = r.length ∨ j = 0:=by
 cases j with
 | zero=>exact .inr rfl
 | succ j=>
  left
  have hm:r[r.length - 1] ∈ nb r[j + 1]:=G.sym _ (ha _ (List.getElem_mem _)) _ h
  rcases inner G hp ha (i:=j) (by omega) _ hm with e | e
  ·
   have:=zKs hp.nd e; omega
  ·
   have:=zKs hp.nd e; omega
theorem zNj {met:List C} (hm:∀ y ∈ r, y ∉ met) (hcl:∀ x ∈ all, x ∈ met -> ∀ y ∈ nb x, y ∈ met) (h0:0 < r.length) (he:∀ y ∈ nb r[r.length - 1], y ∈ met ∨ y ∈ r)
  (hc:(nb r[0]).length <= 1 ∨ ∀ x ∈ all, x ∉ met -> (nb x).length = 2):∀ x ∈ r, ∀ y ∈ nb x, y ∈ r:=by
 have nomet:∀ x ∈ r, ∀ y ∈ nb x, y ∉ met:=fun x hx y hy hmet=>hm x hx (hcl y (G.cl _ (ha x hx) _ hy) hmet x (G.sym _ (ha x hx) _ hy))
 have he':∀ y ∈ nb r[r.length - 1], y ∈ r:=fun y hy=>(he y hy).resolve_left (nomet _ (List.getElem_mem _) y hy)
 -- the first vertex
 have first:∀ y ∈ nb r[0], y ∈ r:=by
  intro y hy
  by_cases hl:r.length = 1
  ·
   have:r.length - 1 = 0:=by omega
   exact he' y (by simpa only [this] using hy)
  ·
   have h1:r[1] ∈ nb r[0]:=hp.st 0 (by omega)
   by_cases hy1:y = r[1]
   ·
    rw [hy1]; exact List.getElem_mem _
   ·
    rcases hc with hc | hc
    ·
     exfalso
     match hnb:nb r[0], hc with
     | [], _=>rw [hnb] at h1; cases h1
     | [a], _=>rw [hnb] at h1 hy; simp at h1 hy; exact hy1 (hy.trans h1.symm)
    ·
     refine Classical.byContradiction fun hyn=>?_
     have hlast:=List.getElem_mem (l:=r) (n:=r.length - 1) (by omega)
     have hd:=hc _ (ha _ hlast) (hm _ hlast)
     have hpred:r[r.length - 2] ∈ nb r[r.length - 1]:=by
      have:=G.sym _ (ha _ (List.getElem_mem (l:=r) (n:=r.length - 2) (by omega))) _ (hp.st (r.length - 2) (by omega))
      have e:r.length - 2 + 1 = r.length - 1:=by omega
      simpa only [e] using this
     obtain ⟨u, hu, hne⟩:=other hd (G.nd _ (ha _ hlast)) hpred
     obtain ⟨j, hj, rfl⟩:=List.getElem_of_mem (he' u hu)
     have hjl:j ≠ r.length - 1:=fun e=>by
      subst e
      exact G.irr _ (ha _ hlast) hu
     rcases zMS G hp ha (j:=j) (by omega) hu with e | e
     ·
      have:j = r.length - 2:=by omega
      subst this
      exact hne rfl
     ·
      subst e
      have hef:r[r.length - 1] ∈ nb r[0]:=G.sym _ (ha _ hlast) _ hu
      rcases zNa (G.two _ (ha _ (List.getElem_mem _))) h1 hy (fun e=>hy1 e.symm) _ hef with e | e
      ·
       have:=zKs hp.nd e
       have h2:r.length - 2 = 0:=by omega
       exact hne (by simp only[h2])
      ·
       rw [← e] at hyn; exact hyn (List.getElem_mem _)
 intro x hx y hy
 obtain ⟨i, hi, rfl⟩:=List.getElem_of_mem hx
 cases i with
 | zero=>exact first y hy
 | succ i=>
  by_cases h2:i + 2 < r.length
  ·
   rcases inner G hp ha h2 y hy with e | e
   ·
    rw [e]; exact List.getElem_mem _
   ·
    rw [e]; exact List.getElem_mem _
  ·
   have e:i + 1 = r.length - 1:=by omega
   exact he' y (by simpa only [e] using hy)
end
end Go.Gr
end
section
namespace Go.Gr
variable {C:Type} [DecidableEq C] (nb:C -> List C)
def ph (N most:Nat):List C -> List C × List (List C) -> List C × List (List C)
 | [], s=>s
 | c :: cs, s=>ph N most cs (if c ∈ s.1 ∨ most < (nb c).length then s else (s.1 ++ goW nb s.1 N [] c, s.2 ++ [goW nb s.1 N [] c]))
variable {nb} {all:List C}
structure LOK (nb:C -> List C) (all:List C) (r:List C):Prop where
 pth:Pth nb r
 pos:0 < r.length
 sub:∀ y ∈ r, y ∈ all
 cl:∀ x ∈ r, ∀ y ∈ nb x, y ∈ r
 ends:(nb r[0]).length < 2 ↔ (nb r[r.length - 1]).length < 2
structure SI (nb:C -> List C) (all:List C) (s:List C × List (List C)):Prop where
 flat:s.2.flatten = s.1
 nd:s.1.Nodup
 lines:∀ r ∈ s.2, LOK nb all r
theorem SI.cl {s:List C × List (List C)} (h:SI nb all s):∀ x ∈ all, x ∈ s.1 -> ∀ y ∈ nb x, y ∈ s.1:=fun x _ hx y hy=>by
 have _:=(inferInstance:DecidableEq C)
 rw [← h.flat] at hx ⊢
 obtain ⟨r, hr, hxr⟩:=List.mem_flatten.1 hx
 exact List.mem_flatten.2 ⟨r, hr, (h.lines r hr).cl x hxr y hy⟩
theorem SI.sub {s:List C × List (List C)} (h:SI nb all s):∀ x ∈ s.1, x ∈ all:=fun x hx=>by
 have _:=(inferInstance:DecidableEq C)
 rw [← h.flat] at hx
 obtain ⟨r, hr, hxr⟩:=List.mem_flatten.1 hx
 exact (h.lines r hr).sub x hxr
theorem zMA (G:Gph nb all) {met:List C} (hcl:∀ x ∈ all, x ∈ met -> ∀ y ∈ nb x, y ∈ met):∀ (n:Nat) (out:List C) (x:C), x ∈ all -> x ∉ met -> goW nb met n out x = goW nb [] n out x
 | 0, out, x, _, _=>rfl
 | n + 1, out, x, hx, hm=>by
  have hnm:∀ y ∈ nb x, y ∉ met:=fun y hy hmet=>hm (hcl y (G.cl _ hx _ hy) hmet x (G.sym _ hx _ hy))
  have e:∀ l:List C, (∀ y ∈ l, y ∉ met) -> (l.find? fun y=>!decide (y ∈ met) && !decide (y ∈ out ++ [x])) = l.find? fun y=>!decide (y ∈ ([]:List C)) && !decide (y ∈ out ++ [x]):=by
   intro l
   induction l with
   | nil=>intro _; rfl
   | cons a l ih=>
    intro h
    have h1:=h a (by simp)
    simp only[List.find?_cons]
    rw [ih fun y hy=>h y (by simp [hy])]
    simp [h1]
  unfold goW
  rw [e (nb x) hnm]
  cases hf:(nb x).find? fun y=>!decide (y ∈ ([]:List C)) && !decide (y ∈ out ++ [x]) with
  | none=>rfl
  | some y=>
   have hy:=List.mem_of_find?_eq_some hf
   exact zMA G hcl n (out ++ [x]) y (G.cl _ hx _ hy) (hnm y hy)
theorem zPk (G:Gph nb all) {met:List C} (hcl:∀ x ∈ all, x ∈ met -> ∀ y ∈ nb x, y ∈ met) {N:Nat} (hN:all.length <= N) {c:C} (hca:c ∈ all) (hcm:c ∉ met) (hc:(nb c).length <= 1 ∨ ∀ x ∈ all, x ∉ met -> (nb x).length = 2):
  LOK nb all (goW nb met N [] c) /\ (∀ y ∈ goW nb met N [] c, y ∉ met) /\ (goW nb met N [] c)[0]? = some c:=by
 obtain ⟨t, e, g1, ⟨s, g2⟩, g3, g4, g5, g6⟩:=zSh (met:=met) G.cl N [] c ⟨by simp, fun i hi=>by simp at hi⟩ (fun y hy=>by simp at hy; subst hy; exact hca) (fun y hy=>by simp at hy; subst hy; exact hcm) (by simpa using hN)
 have hr0:(t ++ [e])[0]? = some c:=by rw [g2]; simp
 have hpos:0 < (t ++ [e]).length:=by simp
 have h0:(t ++ [e])[0] = c:=by
  have:=List.getElem?_eq_getElem hpos
  rw [hr0] at this
  exact (Option.some.inj this).symm
 have hlast:(t ++ [e])[(t ++ [e]).length - 1]'(by simp) = e:=by
  have:(t ++ [e]).length - 1 = t.length:=by simp
  simp only[this]
  rw [List.getElem_append_right (by simp)]; simp
 have hcc:(nb (t ++ [e])[0]).length <= 1 ∨ ∀ x ∈ all, x ∉ met -> (nb x).length = 2:=by rw [h0]; exact hc
 have hclosed:=zNj G g3 g4 g5 hcl hpos (by rw [hlast]; exact g6) hcc
 rw [g1]
 refine ⟨⟨g3, hpos, g4, hclosed, ?_⟩, g5, hr0⟩
 have hl2:∀ x ∈ all, (nb x).length <= 2:=G.two
 have hlm:=List.getElem_mem (l:=t ++ [e]) (n:=(t ++ [e]).length - 1) (by simp)
 rcases hcc with h1 | h1
 ·
  refine ⟨fun _=>?_, fun _=>by omega⟩
  refine Classical.byContradiction fun hn=>?_
  have hd:(nb (t ++ [e])[(t ++ [e]).length - 1]).length = 2:=by have:=hl2 _ (g4 _ hlm); omega
  by_cases hl:(t ++ [e]).length = 1
  ·
   have:(t ++ [e]).length - 1 = 0:=by omega
   simp only[this] at hd; omega
  ·
   have hpred:(t ++ [e])[(t ++ [e]).length - 2]'(by omega) ∈ nb (t ++ [e])[(t ++ [e]).length - 1]:=by
    have:=G.sym _ (g4 _ (List.getElem_mem (l:=t ++ [e]) (n:=(t ++ [e]).length - 2) (by omega))) _ (g3.st ((t ++ [e]).length - 2) (by omega))
    have e':(t ++ [e]).length - 2 + 1 = (t ++ [e]).length - 1:=by omega
    simpa only [e'] using this
   obtain ⟨u, hu, hne⟩:=other hd (G.nd _ (g4 _ hlm)) hpred
   obtain ⟨j, hj, rfl⟩:=List.getElem_of_mem (hclosed _ hlm _ hu)
   have hjl:j ≠ (t ++ [e]).length - 1:=fun e'=>by
    subst e'
    exact G.irr _ (g4 _ hlm) hu
   rcases zMS G g3 g4 (j:=j) (by omega) hu with e' | e'
   ·
    have:j = (t ++ [e]).length - 2:=by omega
    subst this
    exact hne rfl
   ·
    subst e'
    have hef:=G.sym _ (g4 _ hlm) _ hu
    have hst:=g3.st 0 (by omega)
    match hnb:nb (t ++ [e])[0], h1 with
    | [], _=>rw [hnb] at hst; cases hst
    | [a], _=>
     rw [hnb] at hst hef
     simp only[List.mem_singleton] at hst hef
     have:=zKs g3.nd (hef.trans hst.symm)
     have h2:(t ++ [e]).length - 2 = 0:=by omega
     exact hne (by simp only[h2])
 ·
  have k1:=h1 _ (g4 _ (List.getElem_mem (l:=t ++ [e]) (n:=0) hpos)) (g5 _ (List.getElem_mem _))
  have k2:=h1 _ (g4 _ hlm) (g5 _ hlm)
  omega
theorem zK9 {N most:Nat}:∀ (cs:List C) (s:List C × List (List C)), ∀ x ∈ s.1, x ∈ (ph nb N most cs s).1
 | [], s, x, hx=>hx
 | c :: cs, s, x, hx=>by
  simp only[ph]
  split
  ·
   exact zK9 cs _ x hx
  ·
   exact zK9 cs _ x (by simp [hx])
theorem zRV {N most:Nat} (hw:∀ (met:List C) (c:C), c ∈ goW nb met N [] c):∀ (cs:List C) (s:List C × List (List C)), ∀ c ∈ cs, (nb c).length <= most -> c ∈ (ph nb N most cs s).1
 | [], s, c, hc, _=>by cases hc
 | d :: cs, s, c, hc, hm=>by
  simp only[ph]
  rcases List.mem_cons.1 hc with rfl | hc
  ·
   refine zK9 cs _ c ?_
   split
   ·
    rename_i h; exact h.resolve_right (by omega)
   ·
    simp [hw]
  ·
   exact zRV hw cs _ c hc hm
theorem zJ1 {met:List C}:∀ (n:Nat) (out:List C) (x:C), ∀ y ∈ out ++ [x], y ∈ goW nb met n out x
 | 0, out, x, y, hy=>hy
 | n + 1, out, x, y, hy=>by
  unfold goW
  split
  ·
   exact hy
  ·
   exact zJ1 n _ _ y (List.mem_append_left _ hy)
theorem zKb (G:Gph nb all) {N most:Nat} (hN:all.length <= N) (hmost:most <= 1 ∨ 2 <= most):∀ (cs:List C) (s:List C × List (List C)), (∀ c ∈ cs, c ∈ all) -> SI nb all s -> (2 <= most -> ∀ x ∈ all, x ∉ s.1 -> (nb x).length = 2) -> SI nb all (ph nb N most cs s)
 | [], s, _, hs, _=>hs
 | c :: cs, s, hsub, hs, h2=>by
  simp only[ph]
  refine zKb G hN hmost cs _ (fun d hd=>hsub d (List.mem_cons_of_mem _ hd)) ?_ ?_
  ·
   split
   ·
    exact hs
   ·
    rename_i h
    simp only[not_or, Nat.not_lt] at h
    have hca:=hsub c (List.mem_cons_self ..)
    obtain ⟨k1, k2, k3⟩:=zPk G hs.cl hN hca h.1 (by
     rcases hmost with h1 | h1
     ·
      exact .inl (by omega)
     ·
      exact .inr (h2 h1))
    refine ⟨by simp [hs.flat], ?_, fun r hr=>?_⟩
    ·
     rw [List.nodup_append]
     exact ⟨hs.nd, k1.pth.nd, fun a ha b hb e=>k2 b hb (e ▸ ha)⟩
    ·
     rcases List.mem_append.1 hr with hr | hr
     ·
      exact hs.lines r hr
     ·
      simp at hr; subst hr; exact k1
  ·
   intro hm x hx hxs
   split at hxs
   ·
    exact h2 hm x hx hxs
   ·
    exact h2 hm x hx (fun h=>hxs (by simp [h]))
def zMr (nb:C -> List C) (all:List C) (N:Nat):List (List C):=(ph nb N 2 all (ph nb N 1 all ([], []))).2
theorem zPc (G:Gph nb all) {N:Nat} (hN:all.length <= N):(∀ r ∈ zMr nb all N, LOK nb all r) /\ (zMr nb all N).flatten.Nodup /\ ∀ x, x ∈ (zMr nb all N).flatten ↔ x ∈ all:=by
 have hw:∀ (met:List C) (c:C), c ∈ goW nb met N [] c:=fun met c=>zJ1 N [] c c (by simp)
 have s0:SI nb all (([], []):List C × List (List C)):=⟨rfl, by simp, by simp⟩
 have s1:=zKb G hN (most:=1) (.inl (by omega)) all _ (fun _ h=>h) s0 (by omega)
 have d1:∀ x ∈ all, x ∉ (ph nb N 1 all ([], [])).1 -> (nb x).length = 2:=fun x hx hn=>by
  have h1:=G.two x hx
  have h2:¬ (nb x).length <= 1:=fun h=>hn (zRV hw all _ x hx h)
  omega
 have s2:=zKb G hN (most:=2) (.inr (by omega)) all _ (fun _ h=>h) s1 (fun _=>d1)
 refine ⟨s2.lines, by unfold zMr; rw [s2.flat]; exact s2.nd, fun x=>⟨fun h=>s2.sub x (by unfold zMr at h; rw [s2.flat] at h; exact h), fun h=>?_⟩⟩
 unfold zMr
 rw [s2.flat]
 exact zRV hw all _ x h (G.two x h)
end Go.Gr
end
section
namespace Go.Av
set_option maxRecDepth 100000
abbrev Cr:=Nat × Nat
def zIN (w r p:Nat):Bool:=decide (p % w + 1 < w) && decide (p / w + 1 < r)
def wP (w r:Nat):List Nat:=(List.range (w * r)).filter (zIN w r)
def zHC (w p:Nat):List Cr:=[(p, p + 1), (p, p + w), (p + 1, p + w + 1), (p + w, p + w + 1)]
def geoB (w r:Nat):Bool:=
 ((wP w r).all fun c=>(wP w r).all fun d=>c == d || decide (((zHC w c).filter fun s=>(zHC w d).contains s).length <= 1)) &&
 ((wP w r).all fun c=>(zHC w c).all fun s=>decide (((wP w r).filter fun d=>(zHC w d).contains s).length <= 2))
theorem zPJ:((List.range 7).all fun w=>(List.range 6).all fun r=>geoB w r) = true:=by decide +kernel
theorem geo {w r:Nat} (hw:w <= 6) (hr:r <= 5):geoB w r = true:=by
 have h:=zPJ
 rw [List.all_eq_true] at h
 have h2:=h w (List.mem_range.2 (by omega))
 rw [List.all_eq_true] at h2
 exact h2 r (List.mem_range.2 (by omega))
section
variable (h:Nat -> Bool) (w r:Nat)
def crO (a b:Nat):Option Cr:=bif h a == h b then none else some (bif h a then (b, a) else (a, b))
def cellL (p:Nat):List Cr:=(zHC w p).filterMap fun s=>crO h s.1 s.2
def ptO (p:Nat) (x:Cr):Option Cr:=bif (cellL h w p).contains x then (cellL h w p).find? fun y=>!(y == x) && ((cellL h w p).length == 2 || y.2 == x.2) else none
def zIe (x:Cr):Cr:=(min x.1 x.2, max x.1 x.2)
def pts (x:Cr):List Cr:=(wP w r).filterMap fun p=>ptO h w p x
end
section
variable {h:Nat -> Bool} {w r:Nat}
theorem zMQ {a b:Nat} {x:Cr} (hab:a < b) (e:crO h a b = some x):zIe x = (a, b):=by
 unfold crO at e
 cases ha:h a <;> cases hb:h b <;> simp [ha, hb] at e
 ·
  subst e
  show (min a b, max a b) = (a, b)
  rw [Nat.min_eq_left (by omega), Nat.max_eq_right (by omega)]
 ·
  subst e
  show (min b a, max b a) = (a, b)
  rw [Nat.min_eq_right (by omega), Nat.max_eq_left (by omega)]
theorem zH3 {p:Nat} (hw:0 < w) {x:Cr} (hx:x ∈ cellL h w p):zIe x ∈ zHC w p:=by
 unfold cellL at hx
 rw [List.mem_filterMap] at hx
 obtain ⟨s, hs, e⟩:=hx
 have hlt:s.1 < s.2:=by
  simp only[zHC, List.mem_cons, List.not_mem_nil, or_false] at hs
  rcases hs with rfl | rfl | rfl | rfl <;> simp only <;> omega
 rw [zMQ hlt e]; exact hs
theorem zOP {p q:Nat} (hw:0 < w) {x y:Cr} (hx:x ∈ cellL h w p) (hy:y ∈ cellL h w q) (e:zIe x = zIe y):x = y:=by
 have key:∀ {p:Nat} {x:Cr}, x ∈ cellL h w p -> crO h (zIe x).1 (zIe x).2 = some x:=fun {p x} hx=>by
  have hs:=zH3 hw hx
  unfold cellL at hx
  rw [List.mem_filterMap] at hx
  obtain ⟨s, hs2, e2⟩:=hx
  have hlt:s.1 < s.2:=by
   simp only[zHC, List.mem_cons, List.not_mem_nil, or_false] at hs2
   rcases hs2 with rfl | rfl | rfl | rfl <;> simp only <;> omega
  rw [zMQ hlt e2]; exact e2
 have h1:=key hx
 have h2:=key hy
 rw [e, h2] at h1
 injection h1 with h1
 exact h1.symm
def cor (w p:Nat):Nat -> Nat
 | 0=>p
 | 1=>p + 1
 | 2=>p + w
 | _=>p + w + 1
theorem zJt {p i j:Nat} (hw:1 < w) (hi:i < 4) (hj:j < 4):(cor w p i == cor w p j) = (i == j):=by
 have hi':i = 0 ∨ i = 1 ∨ i = 2 ∨ i = 3:=by omega
 have hj':j = 0 ∨ j = 1 ∨ j = 2 ∨ j = 3:=by omega
 rcases hi' with rfl | rfl | rfl | rfl <;> rcases hj' with rfl | rfl | rfl | rfl <;> simp [cor] <;> omega
def zHW (b0 b1 b2 b3:Bool):Nat -> Bool
 | 0=>b0
 | 1=>b1
 | 2=>b2
 | _=>b3
def zHK (b:Nat -> Bool):List Cr:=[((0, 1):Cr), (0, 2), (1, 3), (2, 3)].filterMap fun s=>crO b s.1 s.2
def pt4 (b:Nat -> Bool) (x:Cr):Option Cr:=bif (zHK b).contains x then (zHK b).find? fun y=>!(y == x) && ((zHK b).length == 2 || y.2 == x.2) else none
theorem zN8 (b0 b1 b2 b3:Bool):((zHK (zHW b0 b1 b2 b3)).all fun x=>(zHK (zHW b0 b1 b2 b3)).all fun y=>decide (pt4 (zHW b0 b1 b2 b3) x = some y -> x ≠ y /\ pt4 (zHW b0 b1 b2 b3) y = some x)) = true:=by
 cases b0 <;> cases b1 <;> cases b2 <;> cases b3 <;> decide
theorem zTL (b0 b1 b2 b3:Bool):((zHK (zHW b0 b1 b2 b3)).all fun x=>(pt4 (zHW b0 b1 b2 b3) x).isSome) = true:=by
 cases b0 <;> cases b1 <;> cases b2 <;> cases b3 <;> decide
theorem zKh (b0 b1 b2 b3:Bool):((zHK (zHW b0 b1 b2 b3)).all fun x=>decide (x.1 < 4) && decide (x.2 < 4)) = true:=by
 cases b0 <;> cases b1 <;> cases b2 <;> cases b3 <;> decide
def zHE (h:Nat -> Bool) (w p:Nat):Nat -> Bool:=zHW (h p) (h (p + 1)) (h (p + w)) (h (p + w + 1))
def zHD (w p:Nat) (x:Cr):Cr:=(cor w p x.1, cor w p x.2)
theorem zIT {p i j:Nat} (hi:i < 4) (hj:j < 4):crO h (cor w p i) (cor w p j) = (crO (zHE h w p) i j).map (zHD w p):=by
 have e:∀ k, k < 4 -> h (cor w p k) = zHE h w p k:=fun k hk=>by
  have hk':k = 0 ∨ k = 1 ∨ k = 2 ∨ k = 3:=by omega
  rcases hk' with rfl | rfl | rfl | rfl <;> rfl
 unfold crO
 rw [e i hi, e j hj]
 cases zHE h w p i <;> cases zHE h w p j <;> rfl
theorem zH8 (p:Nat):cellL h w p = (zHK (zHE h w p)).map (zHD w p):=by
 have e1:crO h p (p + 1) = _:=zIT (h:=h) (w:=w) (p:=p) (i:=0) (j:=1) (by omega) (by omega)
 have e2:crO h p (p + w) = _:=zIT (h:=h) (w:=w) (p:=p) (i:=0) (j:=2) (by omega) (by omega)
 have e3:crO h (p + 1) (p + w + 1) = _:=zIT (h:=h) (w:=w) (p:=p) (i:=1) (j:=3) (by omega) (by omega)
 have e4:crO h (p + w) (p + w + 1) = _:=zIT (h:=h) (w:=w) (p:=p) (i:=2) (j:=3) (by omega) (by omega)
 unfold cellL zHK zHC
 simp only[List.filterMap_cons, List.filterMap_nil, e1, e2, e3, e4]
 cases crO (zHE h w p) 0 1 <;> cases crO (zHE h w p) 0 2 <;> cases crO (zHE h w p) 1 3 <;> cases crO (zHE h w p) 2 3 <;> rfl
theorem zIv {p:Nat} {x y:Cr} (hw:1 < w) (hx:x.1 < 4 /\ x.2 < 4) (hy:y.1 < 4 /\ y.2 < 4):(zHD w p x == zHD w p y) = (x == y):=by
 show (cor w p x.1 == cor w p y.1 && cor w p x.2 == cor w p y.2) = (x.1 == y.1 && x.2 == y.2)
 rw [zJt hw hx.1 hy.1, zJt hw hx.2 hy.2]
theorem zIQ {α β:Type} (g:α -> β) {q:β -> Bool} {q':α -> Bool}:∀ {L:List α}, (∀ a ∈ L, q (g a) = q' a) -> (L.map g).find? q = (L.find? q').map g
 | [], _=>rfl
 | a :: L, hq=>by
  rw [List.map_cons, List.find?_cons, List.find?_cons, hq a (List.mem_cons_self ..)]
  cases q' a with
  | true=>rfl
  | false=>exact zIQ g fun b hb=>hq b (List.mem_cons_of_mem _ hb)
theorem zK4 {p:Nat} {x:Cr} (hw:1 < w) (hx:x ∈ zHK (zHE h w p)):ptO h w p (zHD w p x) = (pt4 (zHE h w p) x).map (zHD w p):=by
 have hlt:∀ y ∈ zHK (zHE h w p), y.1 < 4 /\ y.2 < 4:=fun y hy=>by
  have:=zKh (h p) (h (p + 1)) (h (p + w)) (h (p + w + 1))
  rw [List.all_eq_true] at this
  have:=this y hy
  simpa using this
 unfold ptO pt4
 rw [zH8]
 have c1:(zHK (zHE h w p)).contains x = true:=by simpa using hx
 have c2:((zHK (zHE h w p)).map (zHD w p)).contains (zHD w p x) = true:=by
  rw [List.contains_iff_mem]; exact List.mem_map_of_mem hx
 rw [c1, c2]
 simp only[cond_true, List.length_map]
 refine zIQ _ fun y hy=>?_
 rw [zIv hw (hlt y hy) (hlt x hx)]
 show (!(y == x) && ((zHK (zHE h w p)).length == 2 || cor w p y.2 == cor w p x.2)) = _
 rw [zJt hw (hlt y hy).2 (hlt x hx).2]
theorem zID {p:Nat} {x y:Cr} (hw:1 < w) (e:ptO h w p x = some y):x ∈ cellL h w p /\ y ∈ cellL h w p /\ x ≠ y /\ ptO h w p y = some x:=by
 have hx:x ∈ cellL h w p:=by
  cases hc:(cellL h w p).contains x with
  | true=>simpa using hc
  | false=>unfold ptO at e; rw [hc] at e; cases e
 have hx0:=hx
 rw [zH8] at hx
 obtain ⟨x', hx', rfl⟩:=List.mem_map.1 hx
 rw [zK4 hw hx'] at e
 obtain ⟨y', hy', rfl⟩:=Option.map_eq_some_iff.1 e
 have hym:y' ∈ zHK (zHE h w p):=by
  unfold pt4 at hy'
  have c1:(zHK (zHE h w p)).contains x' = true:=by simpa using hx'
  rw [c1] at hy'
  exact List.mem_of_find?_eq_some hy'
 have hs:=zN8 (h p) (h (p + 1)) (h (p + w)) (h (p + w + 1))
 rw [List.all_eq_true] at hs
 have hs:=hs x' hx'
 rw [List.all_eq_true] at hs
 have hs:=of_decide_eq_true (hs y' hym) hy'
 have hlt:∀ z ∈ zHK (zHE h w p), z.1 < 4 /\ z.2 < 4:=fun z hz=>by
  have:=zKh (h p) (h (p + 1)) (h (p + w)) (h (p + w + 1))
  rw [List.all_eq_true] at this
  simpa using this z hz
 refine ⟨hx0, by rw [zH8]; exact List.mem_map_of_mem hym, fun e2=>hs.1 ?_, ?_⟩
 ·
  have:=zIv (p:=p) hw (hlt x' hx') (hlt y' hym)
  rw [e2] at this
  simpa using this.symm
 ·
  rw [zK4 hw hym]
  show (pt4 (zHE h w p) y').map (zHD w p) = _
  rw [show pt4 (zHE h w p) y' = some x' from hs.2]; rfl
theorem zT5 {p:Nat} {x:Cr} (hw:1 < w) (hx:x ∈ cellL h w p):∃ y, ptO h w p x = some y:=by
 rw [zH8] at hx
 obtain ⟨x', hx', rfl⟩:=List.mem_map.1 hx
 rw [zK4 hw hx']
 have hs:=zTL (h p) (h (p + 1)) (h (p + w)) (h (p + w + 1))
 rw [List.all_eq_true] at hs
 obtain ⟨y, hy⟩:=Option.isSome_iff_exists.1 (hs x' hx')
 exact ⟨zHD w p y, by rw [show pt4 (zHE h w p) x' = some y from hy]; rfl⟩
theorem zJo {x y:Cr}:y ∈ pts h w r x ↔ ∃ p ∈ wP w r, ptO h w p x = some y:=by
 unfold pts; rw [List.mem_filterMap]
theorem zPE {x y:Cr} (hw:1 < w) (hy:y ∈ pts h w r x):x ∈ pts h w r y:=by
 obtain ⟨p, hp, e⟩:=zJo.1 hy
 exact zJo.2 ⟨p, hp, (zID hw e).2.2.2⟩
theorem zPL {x:Cr} (hw:1 < w):x ∉ pts h w r x:=fun hx=>by
 obtain ⟨p, hp, e⟩:=zJo.1 hx
 exact (zID hw e).2.2.1 rfl
theorem zSF (w r:Nat):(wP w r).Nodup:=List.Pairwise.filter _ List.nodup_range
theorem zNY {x y:Cr} {p q:Nat} (hw:1 < w) (hw6:w <= 6) (hr:r <= 5) (hp:p ∈ wP w r) (hq:q ∈ wP w r) (e1:ptO h w p x = some y) (e2:ptO h w q x = some y):p = q:=by
 have hg:=geo hw6 hr
 unfold geoB at hg
 simp only[zLa, List.all_eq_true, Bool.or_eq_true, beq_iff_eq, decide_eq_true_eq] at hg
 rcases hg.1 p hp q hq with h1 | h1
 ·
  exact h1
 ·
  exfalso
  obtain ⟨a1, a2, a3, _⟩:=zID hw e1
  obtain ⟨b1, b2, _, _⟩:=zID hw e2
  have hx:zIe x ∈ (zHC w p).filter fun s=>(zHC w q).contains s:=by
   rw [List.mem_filter]; exact ⟨zH3 (by omega) a1, by simpa using zH3 (by omega) b1⟩
  have hy:zIe y ∈ (zHC w p).filter fun s=>(zHC w q).contains s:=by
   rw [List.mem_filter]; exact ⟨zH3 (by omega) a2, by simpa using zH3 (by omega) b2⟩
  have hne:zIe x ≠ zIe y:=fun e=>a3 (zOP (by omega) a1 a2 e)
  match hL:(zHC w p).filter (fun s=>(zHC w q).contains s), h1 with
  | [], _=>rw [hL] at hx; cases hx
  | [z], _=>
   rw [hL, List.mem_singleton] at hx hy
   exact hne (hx.trans hy.symm)
  | z :: z2 :: t, h1=>simp at h1
theorem zNu {x:Cr} (hw:1 < w) (hw6:w <= 6) (hr:r <= 5):(pts h w r x).Nodup:=by
 unfold pts
 rw [List.nodup_iff_pairwise_ne, List.pairwise_filterMap]
 have:=zSF w r
 rw [List.nodup_iff_pairwise_ne] at this
 refine List.Pairwise.imp_of_mem ?_ this
 intro p q hp hq hpq y hy z hz e
 subst e
 exact hpq (zNY hw hw6 hr hp hq hy hz)
theorem zM9 {x:Cr} (hw:1 < w) (hw6:w <= 6) (hr:r <= 5):(pts h w r x).length <= 2:=by
 by_cases hx:∃ p ∈ wP w r, x ∈ cellL h w p
 ·
  obtain ⟨p, hp, hxp⟩:=hx
  have hg:=geo hw6 hr
  unfold geoB at hg
  simp only[zLa, List.all_eq_true, Bool.or_eq_true, beq_iff_eq, decide_eq_true_eq] at hg
  have h2:=hg.2 p hp (zIe x) (zH3 (by omega) hxp)
  refine Nat.le_trans ?_ h2
  unfold pts
  rw [show (wP w r).filter (fun d=>(zHC w d).contains (zIe x)) = (wP w r).filterMap (fun d=>if (zHC w d).contains (zIe x) then some d else none) from by
   induction wP w r with
   | nil=>rfl
   | cons a L ih=>rw [List.filter_cons, List.filterMap_cons, ih]; cases (zHC w a).contains (zIe x) <;> rfl]
  generalize wP w r = L
  induction L with
  | nil=>exact Nat.le_refl _
  | cons a L ih=>
   rw [List.filterMap_cons, List.filterMap_cons]
   cases hpt:ptO h w a x with
   | none=>
    cases (zHC w a).contains (zIe x) with
    | true=>show _ <= _ + 1; exact Nat.le_trans ih (Nat.le_succ _)
    | false=>exact ih
   | some y=>
    have hc:(zHC w a).contains (zIe x) = true:=by simpa using zH3 (by omega) (zID hw hpt).1
    rw [if_pos hc]
    simp only[List.length_cons]
    omega
 ·
  have:pts h w r x = []:=by
   rw [List.eq_nil_iff_forall_not_mem]
   intro y hy
   obtain ⟨p, hp, e⟩:=zJo.1 hy
   exact hx ⟨p, hp, (zID hw e).1⟩
  rw [this]; simp
end
end Go.Av
end
section
namespace Go.Av
open Go.Gr
set_option maxRecDepth 100000
def zIn (w a b:Nat):Bool:=decide ((a / w - b / w) + (b / w - a / w) + ((a % w - b % w) + (b % w - a % w)) = 1)
def zNL (w r:Nat):Bool:=(wP w r).all fun c=>(zHC w c).all fun s=>zIn w s.1 s.2 && zIn w s.2 s.1 && decide (s.1 < w * r) && decide (s.2 < w * r)
theorem zNX:((List.range 7).all fun w=>(List.range 6).all fun r=>zNL w r) = true:=by decide +kernel
theorem zRD {w r:Nat} (hw:w <= 6) (hr:r <= 5):zNL w r = true:=by
 have h:=zNX
 rw [List.all_eq_true] at h
 have h2:=h w (List.mem_range.2 (by omega))
 rw [List.all_eq_true] at h2
 exact h2 r (List.mem_range.2 (by omega))
section
variable (h:Nat -> Bool) (w r:Nat)
def zJq (p:Nat):List Cr:=(List.range (w * r)).filterMap fun q=>bif zIn w p q && (!h p && h q) then some (p, q) else none
def zH1:List Cr:=(List.range (w * r)).flatMap (zJq h w r)
end
def ltC (a b:Cr):Bool:=decide (a.1 < b.1) || (a.1 == b.1 && decide (a.2 < b.2))
def sort2:List Cr -> List Cr
 | [a, b]=>bif ltC b a then [b, a] else [a, b]
 | l=>l
theorem zJb {l:List Cr} {x:Cr}:x ∈ sort2 l ↔ x ∈ l:=by
 unfold sort2
 split
 ·
  rename_i a b
  cases ltC b a <;> simp [or_comm]
 ·
  rfl
theorem zIA (l:List Cr):(sort2 l).length = l.length:=by
 unfold sort2
 split
 ·
  rename_i a b
  cases ltC b a <;> rfl
 ·
  rfl
theorem zSv {l:List Cr} (h:l.Nodup):(sort2 l).Nodup:=by
 unfold sort2
 split
 ·
  rename_i a b
  cases ltC b a
  ·
   exact h
  ·
   simp at h ⊢; exact fun e=>h e.symm
 ·
  exact h
section
variable (h:Nat -> Bool) (w r:Nat)
def nbC (x:Cr):List Cr:=sort2 (pts h w r x)
end
section
variable {h:Nat -> Bool} {w r:Nat}
theorem zOr {x:Cr}:x ∈ zH1 h w r ↔ x.1 < w * r /\ x.2 < w * r /\ zIn w x.1 x.2 = true /\ h x.1 = false /\ h x.2 = true:=by
 unfold zH1 zJq
 rw [List.mem_flatMap]
 constructor
 ·
  rintro ⟨p, hp, hx⟩
  rw [List.mem_filterMap] at hx
  obtain ⟨q, hq, e⟩:=hx
  rw [List.mem_range] at hp hq
  cases hc:(zIn w p q && (!h p && h q)) with
  | false=>rw [hc] at e; cases e
  | true=>
   rw [hc] at e
   injection e with e
   subst e
   simp only[zLa, Bool.not_eq_true'] at hc
   exact ⟨hp, hq, hc.1, hc.2.1, hc.2.2⟩
 ·
  rintro ⟨h1, h2, h3, h4, h5⟩
  refine ⟨x.1, List.mem_range.2 h1, ?_⟩
  rw [List.mem_filterMap]
  refine ⟨x.2, List.mem_range.2 h2, ?_⟩
  rw [h3, h4, h5]; rfl
theorem zOK {p:Nat} {x:Cr} (hw6:w <= 6) (hr:r <= 5) (hp:p ∈ wP w r) (hx:x ∈ cellL h w p):x ∈ zH1 h w r:=by
 have hg:=zRD hw6 hr
 unfold zNL at hg
 simp only[zLa, List.all_eq_true, decide_eq_true_eq] at hg
 unfold cellL at hx
 rw [List.mem_filterMap] at hx
 obtain ⟨s, hs, e⟩:=hx
 obtain ⟨⟨⟨g1, g2⟩, g3⟩, g4⟩:=hg p hp s hs
 unfold crO at e
 rw [zOr]
 cases ha:h s.1 <;> cases hb:h s.2 <;> simp [ha, hb] at e
 ·
  subst e; exact ⟨g3, g4, g1, ha, hb⟩
 ·
  subst e; exact ⟨g4, g3, g2, hb, ha⟩
theorem zRJ (hw:1 < w) (hw6:w <= 6) (hr:r <= 5):Gph (nbC h w r) (zH1 h w r) where
 cl:=fun x _ y hy=>by
  obtain ⟨p, hp, e⟩:=zJo.1 (zJb.1 hy)
  exact zOK hw6 hr hp (zID hw e).2.1
 sym:=fun x _ y hy=>zJb.2 (zPE hw (zJb.1 hy))
 irr:=fun x _ hx=>zPL hw (zJb.1 hx)
 nd:=fun x _=>zSv (zNu hw hw6 hr)
 two:=fun x _=>by unfold nbC; rw [zIA]; exact zM9 hw hw6 hr
theorem cells_one (hw:w <= 1):wP w r = []:=by
 unfold wP
 rw [List.filter_eq_nil_iff]
 intro p _
 simp only[zIN, zLa, decide_eq_true_eq]
 intro ⟨h1, _⟩
 omega
theorem zMI (hw6:w <= 6) (hr:r <= 5):Gph (nbC h w r) (zH1 h w r):=by
 by_cases hw:1 < w
 ·
  exact zRJ hw hw6 hr
 ·
  have:∀ x, nbC h w r x = []:=fun x=>by unfold nbC pts; rw [cells_one (by omega)]; rfl
  exact ⟨fun x _ y hy=>(by rw [this] at hy; cases hy), fun x _ y hy=>(by rw [this] at hy; cases hy), fun x _ hx=>(by rw [this] at hx; cases hx), fun x _=>(by rw [this]; simp), fun x _=>(by rw [this]; simp)⟩
end
theorem zSk (h:Nat -> Bool) (w r:Nat):(zH1 h w r).Pairwise fun a b=>ltC a b = true:=by
 unfold zH1
 rw [List.pairwise_flatMap]
 refine ⟨fun p _=>?_, ?_⟩
 ·
  unfold zJq
  rw [List.pairwise_filterMap]
  refine List.Pairwise.imp ?_ List.pairwise_lt_range
  intro q q' hq a ha b hb
  cases h1:(zIn w p q && (!h p && h q)) <;> rw [h1] at ha <;> cases ha
  cases h2:(zIn w p q' && (!h p && h q')) <;> rw [h2] at hb <;> cases hb
  simp [ltC, hq]
 ·
  refine List.Pairwise.imp ?_ List.pairwise_lt_range
  intro p p' hp a ha b hb
  unfold zJq at ha hb
  rw [List.mem_filterMap] at ha hb
  obtain ⟨q, _, ha⟩:=ha
  obtain ⟨q', _, hb⟩:=hb
  cases h1:(zIn w p q && (!h p && h q)) <;> rw [h1] at ha <;> cases ha
  cases h2:(zIn w p' q' && (!h p' && h q')) <;> rw [h2] at hb <;> cases hb
  simp [ltC, hp]
end Go.Av
end
section
namespace Go.Av
open Go.Gr
set_option maxRecDepth 100000
def jnA (a b:Cr) (J:List (Cr × List Cr)):List (Cr × List Cr):=yh a (zHu a [] J ++ [b]) J
def jn2 (J:List (Cr × List Cr)) (p:Cr × Cr):List (Cr × List Cr):=jnA p.2 p.1 (jnA p.1 p.2 J)
theorem zJ9 {β:Type} (a x:Cr) (d v:β):∀ J:List (Cr × β), zHu x d (yh a v J) = if a = x then v else zHu x d J
 | []=>by simp [yh, zHu]
 | (k, u) :: J=>by
  have ih:=zJ9 a x d v J
  simp only[yh]
  by_cases hk:k = a
  ·
   subst hk
   rw [if_pos rfl]
   by_cases h:k = x
   ·
    subst h; simp [zHu]
   ·
    simp [zHu, h]
  ·
   rw [if_neg hk]
   by_cases h:k = x
   ·
    subst h
    rw [if_neg (Ne.symm hk)]
    simp [zHu]
   ·
    simp only[zHu, if_neg h, ih]
def prt (x:Cr) (p:Cr × Cr):List Cr:=if p.1 = x then [p.2] else if p.2 = x then [p.1] else []
theorem zOq {J:List (Cr × List Cr)} {p:Cr × Cr} (hp:p.1 ≠ p.2) (x:Cr):zHu x [] (jn2 J p) = zHu x [] J ++ prt x p:=by
 unfold jn2 jnA prt
 simp only[zJ9]
 by_cases h1:p.1 = x
 ·
  subst h1
  simp [Ne.symm hp]
 ·
  by_cases h2:p.2 = x
  ·
   subst h2; simp [h1]
  ·
   simp [h1, h2]
theorem zJe:∀ {js:List (Cr × Cr)} {J:List (Cr × List Cr)}, (∀ p ∈ js, p.1 ≠ p.2) -> ∀ x, zHu x [] (js.foldl jn2 J) = zHu x [] J ++ js.flatMap (prt x)
 | [], J, _, x=>by simp
 | p :: js, J, h, x=>by
  rw [List.foldl_cons, zJe (fun q hq=>h q (List.mem_cons_of_mem _ hq)), zOq (h p (List.mem_cons_self ..)), List.flatMap_cons, List.append_assoc]
def ins {α:Type} (lt:α -> α -> Bool) (x:α):List α -> List α
 | []=>[x]
 | y :: l=>bif lt x y then x :: y :: l else y :: ins lt x l
def yb {α:Type} (lt:α -> α -> Bool):List α -> List α
 | []=>[]
 | x :: l=>ins lt x (yb lt l)
theorem zJX {α:Type} {lt:α -> α -> Bool} {x y:α}:∀ {l:List α}, y ∈ ins lt x l ↔ y = x ∨ y ∈ l
 | []=>by simp [ins]
 | z :: l=>by
  unfold ins
  cases lt x z with
  | true=>simp
  | false=>
   simp only[cond_false, List.mem_cons, zJX (l:=l)]
   constructor
   ·
    rintro (h | h | h)
    ·
     exact .inr (.inl h)
    ·
     exact .inl h
    ·
     exact .inr (.inr h)
   ·
    rintro (h | h | h)
    ·
     exact .inr (.inl h)
    ·
     exact .inl h
    ·
     exact .inr (.inr h)
theorem zJE {α:Type} {lt:α -> α -> Bool} {y:α}:∀ {l:List α}, y ∈ yb lt l ↔ y ∈ l
 | []=>Iff.rfl
 | x :: l=>by unfold yb; rw [zJX, zJE, List.mem_cons]
theorem zM8 {α β:Type} (g:α -> β) {lt:α -> α -> Bool} {lt':β -> β -> Bool} {x:α}:∀ {l:List α}, (∀ y ∈ l, lt' (g x) (g y) = lt x y) -> ins lt' (g x) (l.map g) = (ins lt x l).map g
 | [], _=>rfl
 | z :: l, h=>by
  rw [List.map_cons]
  unfold ins
  rw [h z (List.mem_cons_self ..)]
  cases lt x z with
  | true=>rfl
  | false=>
   simp only[cond_false, List.map_cons]
   rw [zM8 g fun y hy=>h y (List.mem_cons_of_mem _ hy)]
theorem zKU {α β:Type} (g:α -> β) {lt:α -> α -> Bool} {lt':β -> β -> Bool}:∀ {l:List α}, (∀ x ∈ l, ∀ y ∈ l, lt' (g x) (g y) = lt x y) -> yb lt' (l.map g) = (yb lt l).map g
 | [], _=>rfl
 | z :: l, h=>by
  rw [List.map_cons]
  unfold yb
  rw [zKU g (fun x hx y hy=>h x (List.mem_cons_of_mem _ hx) y (List.mem_cons_of_mem _ hy))]
  exact zM8 g fun y hy=>h z (List.mem_cons_self ..) y (List.mem_cons_of_mem _ (zJE.1 hy))
def ltH (a b:Cr):Bool:=decide (a.2 < b.2) || (a.2 == b.2 && decide (a.1 < b.1))
def two {α:Type}:List α -> List (α × α)
 | [a, b]=>[(a, b)]
 | [a, b, c, d]=>[(a, b), (c, d)]
 | _=>[]
def zJ6 (l:List Cr):List (Cr × Cr):=two (bif l.length == 4 then yb ltH l else l)
def zHO (h:Nat -> Bool) (w p:Nat):List (Cr × Cr):=zJ6 (cellL h w p)
def zSe (b:Nat -> Bool):List (Cr × Cr):=zJ6 (zHK b)
theorem zMx {α β:Type} (g:α -> β) (l:List α):two (l.map g) = (two l).map fun q=>(g q.1, g q.2):=by
 match l with
 | []=>rfl
 | [_]=>rfl
 | [_, _]=>rfl
 | [_, _, _]=>rfl
 | [_, _, _, _]=>rfl
 | _ :: _ :: _ :: _ :: _ :: _=>rfl
theorem zMn (b0 b1 b2 b3:Bool):((zHK (zHW b0 b1 b2 b3)).all fun x=>(zSe (zHW b0 b1 b2 b3)).flatMap (prt x) == (pt4 (zHW b0 b1 b2 b3) x).toList) = true:=by
 cases b0 <;> cases b1 <;> cases b2 <;> cases b3 <;> decide
theorem zKX (b0 b1 b2 b3:Bool):((zSe (zHW b0 b1 b2 b3)).all fun q=>(zHK (zHW b0 b1 b2 b3)).contains q.1 && (zHK (zHW b0 b1 b2 b3)).contains q.2 && !(q.1 == q.2)) = true:=by
 cases b0 <;> cases b1 <;> cases b2 <;> cases b3 <;> decide
section
variable {h:Nat -> Bool} {w r:Nat}
theorem zOG {p i j:Nat} (hw:1 < w) (hi:i < 4) (hj:j < 4):decide (cor w p i < cor w p j) = decide (i < j):=by
 have hi':i = 0 ∨ i = 1 ∨ i = 2 ∨ i = 3:=by omega
 have hj':j = 0 ∨ j = 1 ∨ j = 2 ∨ j = 3:=by omega
 rcases hi' with rfl | rfl | rfl | rfl <;> rcases hj' with rfl | rfl | rfl | rfl <;> simp [cor] <;> omega
theorem zIM {p:Nat}:∀ y ∈ zHK (zHE h w p), y.1 < 4 /\ y.2 < 4:=fun y hy=>by
 have:=zKh (h p) (h (p + 1)) (h (p + w)) (h (p + w + 1))
 rw [List.all_eq_true] at this
 simpa using this y hy
theorem zPw {p:Nat} {x y:Cr} (hw:1 < w) (hx:x.1 < 4 /\ x.2 < 4) (hy:y.1 < 4 /\ y.2 < 4):ltH (zHD w p x) (zHD w p y) = ltH x y:=by
 unfold ltH
 show (decide (cor w p x.2 < cor w p y.2) || (cor w p x.2 == cor w p y.2 && decide (cor w p x.1 < cor w p y.1))) = _
 rw [zOG hw hx.2 hy.2, zOG hw hx.1 hy.1, zJt hw hx.2 hy.2]
theorem zKY {p:Nat} (hw:1 < w):zHO h w p = (zSe (zHE h w p)).map fun q=>(zHD w p q.1, zHD w p q.2):=by
 unfold zHO zSe zJ6
 rw [zH8, List.length_map]
 cases (zHK (zHE h w p)).length == 4 with
 | true=>
  simp only[cond_true]
  rw [zKU (zHD w p) (lt:=ltH) (lt':=ltH) fun x hx y hy=>zPw hw (zIM x hx) (zIM y hy), zMx]
 | false=>
  simp only[cond_false]
  rw [zMx]
theorem zJA {p:Nat} (hw:1 < w):∀ q ∈ zHO h w p, q.1 ∈ cellL h w p /\ q.2 ∈ cellL h w p /\ q.1 ≠ q.2:=fun q hq=>by
 rw [zKY hw] at hq
 obtain ⟨q', hq', rfl⟩:=List.mem_map.1 hq
 have hs:=zKX (h p) (h (p + 1)) (h (p + w)) (h (p + w + 1))
 rw [List.all_eq_true] at hs
 have:=hs q' hq'
 simp only[zLa, Bool.not_eq_true', beq_eq_false_iff_ne, List.contains_iff_mem] at this
 rw [zH8]
 refine ⟨List.mem_map_of_mem this.1.1, List.mem_map_of_mem this.1.2, fun e=>this.2 ?_⟩
 have h2:=zIv (p:=p) hw (zIM _ this.1.1) (zIM _ this.1.2)
 simp only at e
 rw [e] at h2
 simpa using h2.symm
theorem zMB {p:Nat} {x:Cr} {q:Cr × Cr} (hw:1 < w) (hx:x.1 < 4 /\ x.2 < 4) (h1:q.1.1 < 4 /\ q.1.2 < 4) (h2:q.2.1 < 4 /\ q.2.2 < 4):prt (zHD w p x) (zHD w p q.1, zHD w p q.2) = (prt x q).map (zHD w p):=by
 unfold prt
 have e1:(zHD w p q.1 = zHD w p x) ↔ q.1 = x:=by
  have:=zIv (p:=p) hw h1 hx
  rw [← beq_iff_eq, this, beq_iff_eq]
 have e2:(zHD w p q.2 = zHD w p x) ↔ q.2 = x:=by
  have:=zIv (p:=p) hw h2 hx
  rw [← beq_iff_eq, this, beq_iff_eq]
 by_cases c1:q.1 = x
 ·
  rw [if_pos c1, if_pos (e1.2 c1)]; rfl
 ·
  rw [if_neg c1, if_neg (fun e=>c1 (e1.1 e))]
  by_cases c2:q.2 = x
  ·
   rw [if_pos c2, if_pos (e2.2 c2)]; rfl
  ·
   rw [if_neg c2, if_neg (fun e=>c2 (e2.1 e))]; rfl
theorem zPm {p:Nat} (hw:1 < w) (x:Cr):(zHO h w p).flatMap (prt x) = (ptO h w p x).toList:=by
 by_cases hx:x ∈ cellL h w p
 ·
  rw [zH8] at hx
  obtain ⟨x', hx', rfl⟩:=List.mem_map.1 hx
  rw [zKY hw, zK4 hw hx', List.flatMap_map]
  have hs:=zMn (h p) (h (p + 1)) (h (p + w)) (h (p + w + 1))
  have hm:=zKX (h p) (h (p + 1)) (h (p + w)) (h (p + w + 1))
  rw [List.all_eq_true] at hs hm
  have hs:=eq_of_beq (hs x' hx')
  rw [show (pt4 (zHE h w p) x') = pt4 (zHW (h p) (h (p + 1)) (h (p + w)) (h (p + w + 1))) x' from rfl]
  rw [show (Option.map (zHD w p) (pt4 (zHW (h p) (h (p + 1)) (h (p + w)) (h (p + w + 1))) x')).toList = ((pt4 (zHW (h p) (h (p + 1)) (h (p + w)) (h (p + w + 1))) x').toList).map (zHD w p) from by cases pt4 (zHW (h p) (h (p + 1)) (h (p + w)) (h (p + w + 1))) x' <;> rfl]
  rw [← hs, List.map_flatMap]
  have key:∀ (L:List (Cr × Cr)), (∀ q ∈ L, q ∈ zSe (zHW (h p) (h (p + 1)) (h (p + w)) (h (p + w + 1)))) -> L.flatMap (fun q=>prt (zHD w p x') (zHD w p q.1, zHD w p q.2)) = L.flatMap fun q=>(prt x' q).map (zHD w p):=by
   intro L
   induction L with
   | nil=>intro _; rfl
   | cons q L ih=>
    intro hL
    have hq:=hm q (hL q (List.mem_cons_self ..))
    simp only[zLa, List.contains_iff_mem] at hq
    rw [List.flatMap_cons, List.flatMap_cons, ih (fun q hq=>hL q (List.mem_cons_of_mem _ hq)), zMB hw (zIM (h:=h) (w:=w) (p:=p) _ hx') (zIM (h:=h) (w:=w) (p:=p) _ hq.1.1) (zIM (h:=h) (w:=w) (p:=p) _ hq.1.2)]
  exact key _ fun q hq=>hq
 ·
  have e1:ptO h w p x = none:=by
   unfold ptO
   rw [show (cellL h w p).contains x = false from by rw [Bool.eq_false_iff]; simpa using hx]
   rfl
  rw [e1]
  show _ = []
  rw [List.flatMap_eq_nil_iff]
  intro q hq
  obtain ⟨a, b, _⟩:=zJA hw q hq
  unfold prt
  rw [if_neg (fun e:q.1 = x=>hx (e ▸ a)), if_neg (fun e:q.2 = x=>hx (e ▸ b))]
theorem zMj (hw6:w <= 6) (x:Cr):zHu x [] (((wP w r).flatMap (zHO h w)).foldl jn2 []) = pts h w r x:=by
 by_cases hw:1 < w
 ·
  rw [zJe fun p hp=>by
   obtain ⟨c, _, hc⟩:=List.mem_flatMap.1 hp
   exact (zJA hw p hc).2.2]
  show [] ++ _ = _
  rw [List.nil_append, List.flatMap_assoc]
  unfold pts
  induction wP w r with
  | nil=>rfl
  | cons c L ih=>
   rw [List.flatMap_cons, List.filterMap_cons, zPm hw, ih]
   cases ptO h w c x <;> rfl
 ·
  rw [cells_one (by omega)]
  show _ = (wP w r).filterMap _
  rw [cells_one (by omega)]; rfl
end
end Go.Av
end
section
namespace Go.Av
open Go.Gr
set_option maxRecDepth 100000
theorem zNe (a:Cr):ltC a a = false:=by simp [ltC]
theorem zKW {a b c:Cr} (h1:ltC a b = true) (h2:ltC b c = true):ltC a c = true:=by
 simp only[ltC, Bool.or_eq_true, zLa, decide_eq_true_eq, beq_iff_eq] at *; omega
theorem zPG {a b:Cr} (h:a ≠ b):ltC a b = true ∨ ltC b a = true:=by
 simp only[ltC, Bool.or_eq_true, zLa, decide_eq_true_eq, beq_iff_eq]
 have:¬ (a.1 = b.1 /\ a.2 = b.2):=fun e=>h (Prod.ext e.1 e.2)
 omega
section
variable {α:Type} {lt:α -> α -> Bool} (irr:∀ a, lt a a = false) (tr:∀ a b c, lt a b = true -> lt b c = true -> lt a c = true)
include irr tr in
theorem zIu:∀ {l m:List α}, l.Pairwise (fun a b=>lt a b = true) -> m.Pairwise (fun a b=>lt a b = true) -> l.Perm m -> l = m
 | [], m, _, _, hp=>hp.nil_eq
 | a :: l, [], _, _, hp=>by have:=hp.length_eq; simp at this
 | a :: l, b :: m, hl, hm, hp=>by
  rw [List.pairwise_cons] at hl hm
  have hab:a = b:=by
   have h1:a ∈ b :: m:=hp.mem_iff.1 (List.mem_cons_self ..)
   have h2:b ∈ a :: l:=hp.mem_iff.2 (List.mem_cons_self ..)
   rcases List.mem_cons.1 h1 with e | h1
   ·
    exact e
   ·
    rcases List.mem_cons.1 h2 with e | h2
    ·
     exact e.symm
    ·
     have:=tr _ _ _ (hl.1 b h2) (hm.1 a h1)
     rw [irr] at this; cases this
  subst hab
  rw [zIu hl.2 hm.2 (List.Perm.cons_inv hp)]
theorem zSA (x:α):∀ l:List α, (ins lt x l).Perm (x :: l)
 | []=>List.Perm.refl _
 | y :: l=>by
  unfold ins
  cases lt x y with
  | true=>exact List.Perm.refl _
  | false=>exact ((zSA x l).cons y).trans (List.Perm.swap x y l)
theorem zH0:∀ l:List α, (yb lt l).Perm l
 | []=>List.Perm.refl _
 | x :: l=>(zSA x _).trans ((zH0 l).cons x)
include tr in
theorem zKk {x:α}:∀ {l:List α}, l.Pairwise (fun a b=>lt a b = true) -> (∀ y ∈ l, lt x y = true ∨ lt y x = true) -> (ins lt x l).Pairwise (fun a b=>lt a b = true)
 | [], _, _=>by simp [ins]
 | y :: l, hl, hx=>by
  rw [List.pairwise_cons] at hl
  unfold ins
  cases hxy:lt x y with
  | true=>
   simp only[cond_true]
   rw [List.pairwise_cons]
   refine ⟨fun z hz=>?_, by rw [List.pairwise_cons]; exact hl⟩
   rcases List.mem_cons.1 hz with rfl | hz
   ·
    exact hxy
   ·
    exact tr _ _ _ hxy (hl.1 z hz)
  | false=>
   simp only[cond_false]
   rw [List.pairwise_cons]
   refine ⟨fun z hz=>?_, zKk hl.2 fun z hz=>hx z (List.mem_cons_of_mem _ hz)⟩
   rcases zJX.1 hz with rfl | hz
   ·
    exact (hx y (List.mem_cons_self ..)).resolve_left (by rw [hxy]; simp)
   ·
    exact hl.1 z hz
include tr in
theorem zIF:∀ {l:List α}, l.Pairwise (fun a b=>lt a b = true ∨ lt b a = true) -> (yb lt l).Pairwise (fun a b=>lt a b = true)
 | [], _=>List.Pairwise.nil
 | x :: l, h=>by
  rw [List.pairwise_cons] at h
  exact zKk tr (zIF h.2) fun y hy=>h.1 y (zJE.1 hy)
include tr in
include tr in
include irr tr in
end
def hdC (l:List Cr):Cr:=l.headD (0, 0)
def ltF (a b:List Cr):Bool:=ltC (hdC a) (hdC b)
section
variable (h:Nat -> Bool) (w r:Nat)
def zJV:List (List Cr):=zMr (nbC h w r) (zH1 h w r) (zH1 h w r).length
def zHT:List (List Cr):=yb ltF (zJV h w r)
end
theorem zMF (a:List Cr):ltF a a = false:=zNe _
theorem zJL {a b c:List Cr} (h1:ltF a b = true) (h2:ltF b c = true):ltF a c = true:=zKW h1 h2
section
variable {h:Nat -> Bool} {w r:Nat}
theorem zN4 (hw6:w <= 6) (hr:r <= 5):(∀ l ∈ zJV h w r, LOK (nbC h w r) (zH1 h w r) l) /\ (zJV h w r).flatten.Nodup /\ ∀ x, x ∈ (zJV h w r).flatten ↔ x ∈ zH1 h w r:=zPc (zMI hw6 hr) (Nat.le_refl _)
theorem zRX (hw6:w <= 6) (hr:r <= 5):(zJV h w r).Pairwise fun a b=>ltF a b = true ∨ ltF b a = true:=by
 obtain ⟨h1, h2, _⟩:=zN4 (h:=h) hw6 hr
 have h3:(zJV h w r).Pairwise fun a b=>∀ x ∈ a, ∀ y ∈ b, x ≠ y:=by
  rw [List.nodup_iff_pairwise_ne, List.pairwise_flatten] at h2
  exact h2.2
 refine List.Pairwise.imp_of_mem ?_ h3
 intro a b ha hb hd
 have key:∀ l ∈ zJV h w r, hdC l ∈ l:=fun l hl=>by
  have:=(h1 l hl).pos
  cases l with
  | nil=>simp at this
  | cons x t=>exact List.mem_cons_self ..
 exact zPG (hd _ (key a ha) _ (key b hb))
theorem lines_perm:(zHT h w r).Perm (zJV h w r):=zH0 _
theorem zRZ (hw6:w <= 6) (hr:r <= 5):(zHT h w r).Pairwise fun a b=>ltF a b = true:=zIF (lt:=ltF) (fun _ _ _=>zJL) (zRX hw6 hr)
theorem zOo (hw6:w <= 6) (hr:r <= 5) {m:List (List Cr)} (hm:m.Pairwise fun a b=>ltF a b = true) (hp:m.Perm (zJV h w r)):m = zHT h w r:=
 zIu zMF (fun _ _ _=>zJL) hm (zRZ hw6 hr) (hp.trans lines_perm.symm)
end
end Go.Av
end
