import Derived.Test.YtdjncbjfejdamaaGreatDoorChSB
import Derived.Test.YtdjncbjfejdamaaGreatDoorChSA
import Derived.Test.YtdjncbjfejdamaaGreatDoorChSC
set_option linter.unusedVariables false
set_option linter.unusedSimpArgs false
section
namespace Go.Av.Pn
open Go.Av
set_option maxRecDepth 100000
inductive Rc (nb:Nat -> Nat -> Prop) (S:Nat -> Bool) (p:Nat):Nat -> Prop
 | base:Rc nb S p p
 | step {q x:Nat}:Rc nb S p q -> nb q x -> S x = true -> Rc nb S p x
theorem Rc.cons {nb:Nat -> Nat -> Prop} {S:Nat -> Bool} {p q x:Nat} (h1:nb p q) (h2:S q = true) (h:Rc nb S q x):Rc nb S p x:=by
 induction h with
 | base=>exact .step .base h1 h2
 | step _ h3 h4 ih=>exact .step ih h3 h4
theorem Rc.sub {nb nb':Nat -> Nat -> Prop} {S S':Nat -> Bool} {p x:Nat} (hn:∀ a b, nb a b -> S b = true -> nb' a b /\ S' b = true) (h:Rc nb S p x):Rc nb' S' p x:=by
 induction h with
 | base=>exact .base
 | step _ h3 h4 ih=>exact .step ih (hn _ _ h3 h4).1 (hn _ _ h3 h4).2
section
variable {ed:Nat -> Bool} {nb:Nat -> List Nat} {se:Nat -> Bool} {N:Nat}
def Gd (ed:Nat -> Bool) (nb:Nat -> List Nat) (se:Nat -> Bool) (m:List Nat) (x:Nat):Prop:=ed x = false /\ ∀ y ∈ nb x, se y = true -> y ∈ m
theorem Gd.mono {m m':List Nat} {x:Nat} (h:Gd ed nb se m x) (hs:∀ y ∈ m, y ∈ m'):Gd ed nb se m' x:=⟨h.1, fun y hy hse=>hs y (h.2 y hy hse)⟩
theorem zXC (hnb:∀ p, ∀ q ∈ nb p, q < N):∀ (n:Nat) (m:List Nat) (p:Nat), p < N -> p ∉ m -> m.Nodup -> (∀ x ∈ m, x < N) -> N < m.length + n -> (sch ed nb se n m p).2 = none ->
  p ∈ (sch ed nb se n m p).1 /\ (∀ x ∈ m, x ∈ (sch ed nb se n m p).1) /\ ∀ x ∈ (sch ed nb se n m p).1, x ∉ m -> Gd ed nb se (sch ed nb se n m p).1 x
 | 0, m, p, _, _, h3, h4, h5, _=>absurd (List.Nodup.length_le_of_subset (l₂:=List.range N) h3 fun x hx=>List.mem_range.2 (h4 x hx)) (by rw [List.length_range]; omega)
 | n + 1, m, p, h1, h2, h3, h4, h5, h6=>by
  cases he:ed p with
  | true=>rw [zWE he] at h6; cases h6
  | false=>
   rw [zXh he] at h6 ⊢
   have key:∀ (xs:List Nat) (s:List Nat), (∀ q ∈ xs, q < N) -> s.Nodup -> (∀ x ∈ s, x < N) -> N < s.length + n -> (xs.foldl (stp se (sch ed nb se n)) (s, none)).2 = none ->
     (∀ x ∈ s, x ∈ (xs.foldl (stp se (sch ed nb se n)) (s, none)).1) /\ (∀ y ∈ xs, se y = true -> y ∈ (xs.foldl (stp se (sch ed nb se n)) (s, none)).1) /\
     ∀ x ∈ (xs.foldl (stp se (sch ed nb se n)) (s, none)).1, x ∉ s -> Gd ed nb se (xs.foldl (stp se (sch ed nb se n)) (s, none)).1 x:=by
    intro xs
    induction xs with
    | nil=>intro s _ _ _ _ _; exact ⟨fun _ h=>h, fun _ h=>(by cases h), fun x hx hn=>absurd hx hn⟩
    | cons q t ih=>
     intro s hq hs1 hs2 hs3 hno
     rw [List.foldl_cons] at hno ⊢
     cases hc:(se q && !s.contains q) with
     | false=>
      have hst:stp se (sch ed nb se n) (s, none) q = (s, none):=by unfold stp; dsimp only; rw [hc]; rfl
      rw [hst] at hno ⊢
      obtain ⟨a, b, c⟩:=ih s (fun x hx=>hq x (List.mem_cons_of_mem _ hx)) hs1 hs2 hs3 hno
      refine ⟨a, fun y hy hse=>?_, c⟩
      rcases List.mem_cons.1 hy with rfl | hy
      ·
       rw [hse, Bool.true_and, Bool.not_eq_false'] at hc
       exact a y (List.contains_iff_mem.1 hc)
      ·
       exact b y hy hse
     | true=>
      have hst:stp se (sch ed nb se n) (s, none) q = sch ed nb se n s q:=by unfold stp; dsimp only; rw [hc]; rfl
      rw [hst] at hno ⊢
      simp only[zLa, Bool.not_eq_true'] at hc
      have hqs:q ∉ s:=fun h=>by rw [List.contains_iff_mem.2 h] at hc; cases hc.2
      have hqN:=hq q (List.mem_cons_self ..)
      have hkp:=zXL (ed:=ed) (se:=se) hnb n s q hqN hqs hs1 hs2
      cases ho:(sch ed nb se n s q).2 with
      | some y=>
       rw [zWv (by rw [ho]; rfl)] at hno
       rw [ho] at hno; cases hno
      | none=>
       obtain ⟨a1, b1, c1⟩:=zXC hnb n s q hqN hqs hs1 hs2 hs3 ho
       have hpair:sch ed nb se n s q = ((sch ed nb se n s q).1, none):=Prod.ext rfl ho
       generalize (sch ed nb se n s q).1 = s1 at hkp a1 b1 c1 hpair
       rw [hpair] at hno ⊢
       obtain ⟨a, b, c⟩:=ih s1 (fun x hx=>hq x (List.mem_cons_of_mem _ hx)) hkp.nd hkp.lt (by have:=hkp.le; omega) hno
       refine ⟨fun x hx=>a x (b1 x hx), fun y hy hse=>?_, fun x hx hn=>?_⟩
       ·
        rcases List.mem_cons.1 hy with rfl | hy
        ·
         exact a y a1
        ·
         exact b y hy hse
       ·
        by_cases h:x ∈ s1
        ·
         exact (c1 x h hn).mono a
        ·
         exact c x hx h
   obtain ⟨a, b, c⟩:=key (nb p) (m ++ [p]) (hnb p) (by rw [List.nodup_append]; exact ⟨h3, by simp, fun a ha b hb=>by simp at hb; subst hb; exact fun e=>h2 (e ▸ ha)⟩) (fun x hx=>by rcases List.mem_append.1 hx with h | h; exact h4 x h; rw [List.mem_singleton] at h; subst h; exact h1) (by simp; omega) h6
   refine ⟨a p (by simp), fun x hx=>a x (by simp [hx]), fun x hx hn=>?_⟩
   by_cases h:x = p
   ·
    subst h; exact ⟨he, b⟩
   ·
    exact c x hx (by simp [hn, h])
theorem zXE:∀ (n:Nat) (m:List Nat) (p x:Nat), (sch ed nb se n m p).2 = some x -> ed x = true /\ Rc (fun a b=>b ∈ nb a) se p x
 | 0, m, p, x, h=>by cases h
 | n + 1, m, p, x, h=>by
  cases he:ed p with
  | true=>rw [zWE he] at h; injection h with h; subst h; exact ⟨he, .base⟩
  | false=>
   rw [zXh he] at h
   have key:∀ (xs:List Nat) (s:List Nat), (xs.foldl (stp se (sch ed nb se n)) (s, none)).2 = some x -> ed x = true /\ ∃ q ∈ xs, se q = true /\ Rc (fun a b=>b ∈ nb a) se q x:=by
    intro xs
    induction xs with
    | nil=>intro s hs; cases hs
    | cons q t ih=>
     intro s hs
     rw [List.foldl_cons] at hs
     cases hc:(se q && !s.contains q) with
     | false=>
      rw [show stp se (sch ed nb se n) (s, none) q = (s, none) from by unfold stp; dsimp only; rw [hc]; rfl] at hs
      obtain ⟨h1, y, h2, h3⟩:=ih s hs
      exact ⟨h1, y, List.mem_cons_of_mem _ h2, h3⟩
     | true=>
      rw [show stp se (sch ed nb se n) (s, none) q = sch ed nb se n s q from by unfold stp; dsimp only; rw [hc]; rfl] at hs
      simp only[zLa] at hc
      cases ho:(sch ed nb se n s q).2 with
      | some y=>
       rw [zWv (by rw [ho]; rfl), ho] at hs
       injection hs with hs; subst hs
       obtain ⟨h1, h2⟩:=zXE n s q y ho
       exact ⟨h1, q, List.mem_cons_self .., hc.1, h2⟩
      | none=>
       rw [show sch ed nb se n s q = ((sch ed nb se n s q).1, none) from Prod.ext rfl ho] at hs
       obtain ⟨h1, y, h2, h3⟩:=ih _ hs
       exact ⟨h1, y, List.mem_cons_of_mem _ h2, h3⟩
   obtain ⟨h1, q, h2, h3, h4⟩:=key (nb p) (m ++ [p]) h
   exact ⟨h1, h4.cons h2 h3⟩
theorem zYx (hnb:∀ p, ∀ q ∈ nb p, q < N) {p:Nat} (hp:p < N):(sch ed nb se (N + 1) [] p).2 = none ↔ ∀ x, Rc (fun a b=>b ∈ nb a) se p x -> ed x = false:=by
 constructor
 ·
  intro h x hx
  obtain ⟨a, _, c⟩:=zXC (ed:=ed) (se:=se) hnb (N + 1) [] p hp (by simp) List.nodup_nil (by simp) (by simp) h
  have:x ∈ (sch ed nb se (N + 1) [] p).1:=by
   induction hx with
   | base=>exact a
   | step _ h3 h4 ih=>exact (c _ ih (by simp)).2 _ h3 h4
  exact (c x this (by simp)).1
 ·
  intro h
  cases ho:(sch ed nb se (N + 1) [] p).2 with
  | none=>rfl
  | some x=>
   obtain ⟨h1, h2⟩:=zXE _ _ _ _ ho
   rw [h x h2] at h1; cases h1
end
end Go.Av.Pn
end
section
namespace Go.Av.Pn
open Go.Av
set_option maxRecDepth 100000
def LeB (m m':List Bool):Prop:=∀ i, m.getD i false = true -> m'.getD i false = true
theorem LeB.refl (m:List Bool):LeB m m:=fun _ h=>h
theorem LeB.trans {a b c:List Bool} (h1:LeB a b) (h2:LeB b c):LeB a c:=fun i h=>h2 i (h1 i h)
theorem zWm {m:List Bool} {q i:Nat} (hq:q < m.length):(m.set q true).getD i false = (if i = q then true else m.getD i false):=by
 simp only[List.getD_eq_getElem?_getD, List.getElem?_set]
 by_cases h:i = q
 ·
  subst h; simp [hq]
 ·
  rw [if_neg (Ne.symm h), if_neg h]
theorem LeB.cnt:∀ {m m':List Bool}, m.length = m'.length -> LeB m m' -> m = m' ∨ m.count true < m'.count true
 | [], [], _, _=>.inl rfl
 | a :: t, b :: t', hl, h=>by
  have ht:=LeB.cnt (m:=t) (m':=t') (by simpa using hl) fun i hi=>h (i + 1) hi
  have h0:=h 0
  cases a <;> cases b
  ·
   rcases ht with rfl | ht
   ·
    exact .inl rfl
   ·
    right; simp only[List.count_cons]; simpa using ht
  ·
   right
   simp only[List.count_cons]
   rcases ht with rfl | ht <;> simp <;> omega
  ·
   have:=h0 rfl
   simp at this
  ·
   rcases ht with rfl | ht
   ·
    exact .inl rfl
   ·
    right; simp only[List.count_cons]; simpa using ht
 | [], _ :: _, hl, _=>by simp at hl
 | _ :: _, [], hl, _=>by simp at hl
section
variable {f:Fld} {lvl:Int} {hi:Bool}
theorem zYs {p q:Nat} {m:List Bool} (hq:q < m.length):LeB m (stQ f lvl hi p q m):=fun i h=>by
 unfold stQ
 cases (m.getD p false && zWS f lvl hi p q) with
 | false=>exact h
 | true=>
  show (m.set q true).getD i false = true
  rw [zWm hq]
  by_cases e:i = q
  ·
   rw [if_pos e]
  ·
   rw [if_neg e]; exact h
theorem zXb {p:Nat} {m:List Bool}:∀ k, k <= m.length -> LeB m (foQ f lvl hi p m k)
 | 0, _=>LeB.refl _
 | k + 1, h=>by rw [zWe]; exact (zXb k (by omega)).trans (zYs (by rw [zWi]; omega))
theorem zXs {p q:Nat} {m:List Bool} (hp:m.getD p false = true) (hl:zWS f lvl hi p q = true):∀ k, k <= m.length -> q < k -> (foQ f lvl hi p m k).getD q false = true
 | 0, _, h=>by omega
 | k + 1, hk, h=>by
  rw [zWe]
  by_cases e:q = k
  ·
   subst e
   unfold stQ
   rw [zXb q (by omega) p hp, hl]
   show ((foQ f lvl hi p m q).set q true).getD q false = true
   rw [zWm (by rw [zWi]; omega), if_pos rfl]
  ·
   exact zYs (by rw [zWi]; omega) q (zXs hp hl k (by omega) (by omega))
theorem zW7 {m:List Bool} (hm:m.length = f.vals.length):∀ k, LeB m (foP f lvl hi m k)
 | 0=>LeB.refl _
 | k + 1=>by rw [foP_succ]; exact (zW7 hm k).trans (zXb _ (by rw [zWd]; omega))
theorem zXv {a b:Nat} {m:List Bool} (hm:m.length = f.vals.length) (ha:m.getD a false = true) (hl:zWS f lvl hi a b = true) (hb:b < f.vals.length):∀ k, a < k -> (foP f lvl hi m k).getD b false = true
 | 0, h=>by omega
 | k + 1, h=>by
  rw [foP_succ]
  by_cases e:a = k
  ·
   subst e
   exact zXs (zW7 hm a a ha) hl _ (by rw [zWd]; omega) hb
  ·
   exact zXb _ (by rw [zWd]; omega) b (zXv hm ha hl hb k (by omega))
theorem zXY {m:List Bool} (hm:m.length = f.vals.length):∀ k, foP f lvl hi (foA f lvl hi m k) f.vals.length = foA f lvl hi m k ∨ m.count true + k <= (foA f lvl hi m k).count true
 | 0=>.inr (Nat.le_refl _)
 | k + 1=>by
  rw [foA_succ]
  have hl:(foA f lvl hi m k).length = f.vals.length:=by rw [zWp]; exact hm
  rcases zXY hm k with h | h
  ·
   left; rw [h, h]
  ·
   rcases LeB.cnt (m:=foA f lvl hi m k) (m':=foP f lvl hi (foA f lvl hi m k) f.vals.length) (by rw [zWd]) (zW7 hl _) with e | e
   ·
    left; rw [← e, ← e]
   ·
    right; omega
def nbR (f:Fld) (hi:Bool) (a b:Nat):Prop:=b < f.vals.length /\ ((dist f.wide (a:Int) (b:Int) == 1) || (!hi && zX9 f.wide (a:Int) (b:Int))) = true
def seR (f:Fld) (lvl:Int) (hi:Bool) (b:Nat):Bool:=hiF f lvl b == hi
theorem zX2 {a b:Nat} (hb:b < f.vals.length):zWS f lvl hi a b = true ↔ nbR f hi a b /\ seR f lvl hi b = true:=by
 unfold zWS nbR seR
 rw [zLa]
 exact ⟨fun h=>⟨⟨hb, h.2⟩, h.1⟩, fun h=>⟨h.2, h.1.2⟩⟩
def Sd (f:Fld) (lvl:Int) (hi:Bool) (p:Nat) (m:List Bool):Prop:=∀ i, m.getD i false = true -> Rc (nbR f hi) (seR f lvl hi) p i
theorem zYO {p a b:Nat} {m:List Bool} (hb:b < f.vals.length) (hm:m.length = f.vals.length) (h:Sd f lvl hi p m):Sd f lvl hi p (stQ f lvl hi a b m):=fun i hi'=>by
 unfold stQ at hi'
 cases hc:(m.getD a false && zWS f lvl hi a b) with
 | false=>rw [hc] at hi'; exact h i hi'
 | true=>
  rw [hc] at hi'
  change (m.set b true).getD i false = true at hi'
  rw [zWm (by omega)] at hi'
  by_cases e:i = b
  ·
   subst e
   rw [zLa] at hc
   have:=(zX2 hb).1 hc.2
   exact .step (h a hc.1) this.1 this.2
  ·
   rw [if_neg e] at hi'; exact h i hi'
theorem zYd {p a:Nat} {m:List Bool} (hm:m.length = f.vals.length) (h:Sd f lvl hi p m):∀ k, k <= f.vals.length -> Sd f lvl hi p (foQ f lvl hi a m k)
 | 0, _=>h
 | k + 1, hk=>by rw [zWe]; exact zYO (by omega) (by rw [zWi]; exact hm) (zYd hm h k (by omega))
theorem zYl {p:Nat} {m:List Bool} (hm:m.length = f.vals.length) (h:Sd f lvl hi p m):∀ k, Sd f lvl hi p (foP f lvl hi m k)
 | 0=>h
 | k + 1=>by rw [foP_succ]; exact zYd (by rw [zWd]; exact hm) (zYl hm h k) _ (Nat.le_refl _)
theorem zYu {p:Nat} {m:List Bool} (hm:m.length = f.vals.length) (h:Sd f lvl hi p m):∀ k, Sd f lvl hi p (foA f lvl hi m k)
 | 0=>h
 | k + 1=>by rw [foA_succ]; exact zYl (by rw [zWp]; exact hm) (zYu hm h k) _
theorem zXl {p:Nat} (hp:p < f.vals.length) (x:Nat):(zWs f lvl hi p).getD x false = true ↔ Rc (nbR f hi) (seR f lvl hi) p x:=by
 have hm:((List.replicate f.vals.length false).set p true).length = f.vals.length:=by simp
 have h0:∀ i, ((List.replicate f.vals.length false).set p true).getD i false = (if i = p then true else (List.replicate f.vals.length false).getD i false):=fun i=>zWm (by simpa using hp)
 constructor
 ·
  refine zYu hm (fun i hi'=>?_) _ x
  rw [h0] at hi'
  by_cases e:i = p
  ·
   subst e; exact .base
  ·
   rw [if_neg e] at hi'
   simp only[List.getD_eq_getElem?_getD, List.getElem?_replicate] at hi'
   split at hi' <;> cases hi'
 ·
  have hlen:(zWs f lvl hi p).length = f.vals.length:=by unfold zWs; rw [zWp]; exact hm
  have hfix:foP f lvl hi (zWs f lvl hi p) f.vals.length = zWs f lvl hi p:=by
   rcases zXY (f:=f) (lvl:=lvl) (hi:=hi) hm f.vals.length with h | h
   ·
    exact h
   ·
    exfalso
    have h1:=List.count_le_length (a:=true) (l:=zWs f lvl hi p)
    have h2:1 <= ((List.replicate f.vals.length false).set p true).count true:=by
     refine List.count_pos_iff.2 ?_
     exact List.mem_of_getElem? (i:=p) (by simp [hp])
    rw [hlen] at h1
    unfold zWs at h1
    omega
  have hle:LeB ((List.replicate f.vals.length false).set p true) (zWs f lvl hi p):=by
   have:∀ k, LeB ((List.replicate f.vals.length false).set p true) (foA f lvl hi ((List.replicate f.vals.length false).set p true) k):=fun k=>by
    induction k with
    | zero=>exact LeB.refl _
    | succ k ih=>rw [foA_succ]; exact ih.trans (zW7 (by rw [zWp]; exact hm) _)
   exact this _
  intro hx
  induction hx with
  | base=>exact hle p (by rw [h0, if_pos rfl])
  | @step q y _ h3 h4 ih=>
   rw [← hfix]
   have hq:q < f.vals.length:=by
    apply Classical.byContradiction
    intro hq
    rw [List.getD_eq_getElem?_getD, List.getElem?_eq_none (by omega)] at ih
    cases ih
   exact zXv hlen ih ((zX2 h3.1).2 ⟨h3, h4⟩) h3.1 _ hq
theorem zWc {p:Nat} (hp:p < f.vals.length):zV2 f lvl hi p = true ↔ seR f lvl hi p = true /\ ∀ x, x < f.vals.length -> Rc (nbR f hi) (seR f lvl hi) p x -> zW4 f (x:Int) = false:=by
 unfold zV2
 rw [zLa, List.all_eq_true]
 refine and_congr Iff.rfl ⟨fun h x hx hr=>?_, fun h x hx=>?_⟩
 ·
  have:=h x (List.mem_range.2 hx)
  rw [(zXl hp x).2 hr, Bool.true_and, Bool.not_eq_true'] at this
  exact this
 ·
  cases hm:(zWs f lvl hi p).getD x false with
  | false=>rfl
  | true=>rw [h x (List.mem_range.1 hx) ((zXl hp x).1 hm)]; rfl
end
end Go.Av.Pn
end
section
namespace Go.Av.Pn
open Go.Av
set_option maxRecDepth 100000
theorem zWY {a b:Int}:zSx a b = 0 ↔ a = b:=by unfold zSx; omega
theorem zYr {w:Int} (hw:1 <= w) (a b:Nat) (c:Bool):zR1 w (a:Int) c b = ((dist w (a:Int) (b:Int) == 1) || (c && zX9 w (a:Int) (b:Int))):=by
 have ha:=Int.emod_add_mul_ediv (a:Int) w
 have hb:=Int.emod_add_mul_ediv (b:Int) w
 have hne:((a:Int) / w = (b:Int) / w /\ (a:Int) % w = (b:Int) % w) -> (a:Int) = (b:Int):=fun h=>by rw [h.1, h.2] at ha; omega
 have hcg:(a:Int) = (b:Int) -> (a:Int) / w = (b:Int) / w:=fun e=>by rw [e]
 unfold zR1 zX9 dist
 cases c with
 | false=>simp
 | true=>
  simp only[Bool.true_and]
  generalize (a:Int) / w = r1 at *
  generalize (b:Int) / w = r2 at *
  generalize (a:Int) % w = c1 at *
  generalize (b:Int) % w = c2 at *
  have k1:zSx r1 r2 = 0 ↔ r1 = r2:=zWY
  have k2:zSx c1 c2 = 0 ↔ c1 = c2:=zWY
  have k3:0 <= zSx r1 r2:=by unfold zSx; omega
  have k4:0 <= zSx c1 c2:=by unfold zSx; omega
  generalize zSx r1 r2 = R at *
  generalize zSx c1 c2 = C at *
  rw [Bool.eq_iff_iff]
  simp only[Bool.or_eq_true, zLa, beq_iff_eq, bne_iff_ne, ne_eq, decide_eq_true_eq]
  constructor
  ·
   rintro (h | h)
   ·
    exact .inl h
   ·
    right
    refine ⟨fun e=>?_, by omega, by omega⟩
    have e1:r1 = r2:=hcg e
    exact h.1.2 e1
  ·
   rintro (h | ⟨h1, h2, h3⟩)
   ·
    exact .inl h
   ·
    by_cases e1:r1 = r2
    ·
     by_cases e2:c1 = c2
     ·
      exact absurd (hne ⟨e1, e2⟩) h1
     ·
      left; omega
    ·
     by_cases e2:c1 = c2
     ·
      left; omega
     ·
      right; omega
theorem zYA {w r:Int} {vals:List Int} {lvl:Int} {hi:Bool} {p:Nat} (hw:1 <= w) (hr:1 <= r) (hl:(vals.length:Int) = w * r) (hp:p < vals.length):
  zWX w r vals lvl hi p = true ↔ inS vals lvl hi p = true /\ ∀ x, x < vals.length -> Rc (nbR ⟨w, vals⟩ hi) (inS vals lvl hi) p x -> zW4 ⟨w, vals⟩ (x:Int) = false:=by
 have hN:(w * r).toNat = vals.length:=by omega
 have hdiv:(vals.length:Int) / w = r:=by rw [hl]; exact Int.mul_ediv_cancel_left _ (by omega)
 have hed:∀ x:Nat, zWb w r (x:Int) = zW4 ⟨w, vals⟩ (x:Int):=fun x=>by
  unfold zWb zW4
  dsimp only
  rw [hdiv]; simp [Bool.or_assoc]
 have hnb:∀ a b:Nat, b ∈ nbs w r (a:Int) (!hi) ↔ nbR ⟨w, vals⟩ hi a b:=fun a b=>by
  rw [zPD, zYr hw, hN]; rfl
 have hrc:∀ x, Rc (fun a b=>b ∈ nbs w r (a:Int) (!hi)) (inS vals lvl hi) p x ↔ Rc (nbR ⟨w, vals⟩ hi) (inS vals lvl hi) p x:=fun x=>
  ⟨fun h=>h.sub fun a b h1 h2=>⟨(hnb a b).1 h1, h2⟩, fun h=>h.sub fun a b h1 h2=>⟨(hnb a b).2 h1, h2⟩⟩
 have hlt:∀ x, Rc (nbR ⟨w, vals⟩ hi) (inS vals lvl hi) p x -> x < vals.length:=fun x h=>by
  cases h with
  | base=>exact hp
  | step _ h3 _=>exact h3.1
 unfold zWX
 rw [zLa, Option.isNone_iff_eq_none]
 refine and_congr Iff.rfl ?_
 rw [zYx (N:=(w * r).toNat) (fun a q hq=>(zPD.1 hq).1) (by omega)]
 exact ⟨fun h x _ hx=>by rw [← hed]; exact h x ((hrc x).2 hx), fun h x hx=>by rw [hed]; exact h x (hlt x ((hrc x).1 hx)) ((hrc x).1 hx)⟩
theorem zXj {w r:Int} {vals:List Int} {lvl:Int} {hi:Bool} {p:Nat} (hw:1 <= w) (hr:1 <= r) (hl:(vals.length:Int) = w * r) (hp:p < vals.length):zWX w r vals lvl hi p = zV2 ⟨w, vals⟩ lvl hi p:=by
 rw [Bool.eq_iff_iff, zYA hw hr hl hp, zWc (f:=⟨w, vals⟩) hp]
 exact Iff.rfl
theorem zWj {f g:Fld} {lvl:Int} {hi:Bool} {p:Nat} (hw:f.wide = g.wide) (hl:f.vals.length = g.vals.length) (hp:p < f.vals.length) (hS:∀ q, q < f.vals.length -> inS g.vals lvl hi q = true -> inS f.vals lvl hi q = true) (hg:inS g.vals lvl hi p = true) (h:zV2 f lvl hi p = true):zV2 g lvl hi p = true:=by
 have h1:=(zWc hp).1 h
 refine (zWc (by omega)).2 ⟨hg, fun x hx hr=>?_⟩
 have h2:=h1.2 x (by omega) (hr.sub fun a b h3 h4=>⟨⟨by have:=h3.1; omega, by have:=h3.2; rw [← hw] at this; exact this⟩, hS b (by have:=h3.1; omega) h4⟩)
 unfold zW4 at h2 ⊢
 rw [← hw, ← hl]; exact h2
section
variable {m:Mp}
theorem zY9 (a b:Int):maxL [a, b] = max a b:=by unfold maxL; simp
theorem zY8 (a b:Int):minL [a, b] = min a b:=by unfold minL; simp
theorem zXG {p i:Nat} {lvl:Int} (h:i < npt m):shG m p lvl true i = max (loG m i) (lvl - shD m p i):=by
 show maxL [(los m).getD i 0, _] = _
 rw [zY9]; unfold los loG; simp [List.getD, h]
theorem zXF {p i:Nat} {lvl:Int} (h:i < npt m):shG m p lvl false i = zG m p (lvl - 1) i:=by
 show minL [(his m).getD i 0, _] = _
 rw [zY8]; unfold his zG hiG shD; simp [List.getD, h]
def xG (m:Mp) (p:Nat) (lvl:Int) (i:Nat):Int:=max (loG m i) (lvl - shD m p i)
theorem sh_hi {p:Nat} {lvl:Int}:(⟨m.wide, shL m p lvl true⟩:Fld) = fnF m (xG m p lvl):=by
 unfold fnF shL
 congr 1
 exact List.map_congr_left fun i hi=>zXG (List.mem_range.1 hi)
theorem sh_lo {p:Nat} {lvl:Int}:(⟨m.wide, shL m p lvl false⟩:Fld) = fnF m (zG m p (lvl - 1)):=by
 unfold fnF shL
 congr 1
 exact List.map_congr_left fun i hi=>zXF (List.mem_range.1 hi)
theorem zYz (hm:okM m) (hc:zH5 m = none) {p:Nat} {lvl:Int} (h1:lvl <= hiG m p):FitsM m (fnF m (xG m p lvl)):=by
 refine zVt hm (fun i j=>?_) fun s hs=>?_
 ·
  have h2:=zVI hm (i:=(i:Int)) (j:=(j:Int)) (by omega) (by omega)
  have h3:=hm.tri (a:=(p:Int)) (b:=(j:Int)) (c:=(i:Int)) (by omega) (by omega) (by omega)
  unfold xG loG shD
  omega
 ·
  have h2:=zVT hm hc hs
  have h3:=zU9 (w:=m.wide) (sl:=m.slope) (p:=(p:Int)) hs
  have h4:=hm.dnn (a:=(p:Int)) (b:=s.pt) (by omega) (hm.pt0 hs)
  unfold xG loG shD
  unfold hiG at h1
  rw [zVE hm hs]
  omega
theorem zYX (hm:okM m) {p:Nat} {lvl:Int} (h0:lvl <= 99999) {i:Nat} (hi:i < npt m):0 <= xG m p lvl i /\ xG m p lvl i <= 99999:=by
 have h1:=zVK hm hi
 have h2:=hm.dnn (a:=(p:Int)) (b:=(i:Int)) (by omega) (by omega)
 unfold xG shD
 omega
end
end Go.Av.Pn
end
section
namespace Go.Av
open Go.Av.Pn Go.Proofs
set_option maxRecDepth 100000
variable {G:Glob}
def zWr (m:Mp) (p:Nat) (lvl:Int) (hi:Bool):Bool:=match hi with
 | true=>decide ((his m).getD p 0 < lvl)
 | false=>decide (lvl <= (los m).getD p 0)
def isP (m:Mp) (p:Nat) (lvl:Int) (hi:Bool):Bool:=!zWr m p lvl hi && zWX m.wide m.rows (shL m p lvl hi) lvl hi p
def wdP (m:Mp) (p:Nat) (lvl:Int) (hi:Bool):Int:=if isP m p lvl hi = true then (if wX m p lvl hi = true then 3 else 2) else 1
def xP (m:Mp) (p:Nat) (lvl:Int) (hi:Bool):Fld:=if isP m p lvl hi = true then ⟨m.wide, shL m p lvl hi⟩ else zVY
def gP (m:Mp) (p:Nat) (lvl:Int) (hi:Bool):Int:=if isP m p lvl hi = true then 0 else 5
theorem zX0 (m:Mp) (p:Nat) (lvl:Int) (hi:Bool) (hm:okM m) (hp:p < npt m) (hv:1 <= lvl /\ lvl <= 99999):
  ∃ V:AV, ACall Tryz.prog G 90 [.agg (zHt m), .agg (zV7 (p:Int) lvl hi)] (.tup [V, .v (.bool (isP m p lvl hi))]) /\ (isP m p lvl hi = true -> V = zO (shL m p lvl hi)):=by
 unfold isP
 cases hi with
 | true=>
  cases hn:zWr m p lvl true with
  | true=>exact ⟨_, zWV m p lvl hm hp hv hn, fun h=>by cases h⟩
  | false=>exact ⟨_, zWQ m p lvl hm hp hv hn, fun _=>rfl⟩
 | false=>
  cases hn:zWr m p lvl false with
  | true=>exact ⟨_, zWG m p lvl hm hp hv hn, fun h=>by cases h⟩
  | false=>exact ⟨_, zWH m p lvl hm hp hv hn, fun _=>rfl⟩
theorem zXZ (m:Mp) (p:Nat) (lvl:Int) (hi:Bool) (hm:okM m) (hp:p < npt m) (hv:1 <= lvl /\ lvl <= 99999):
  ACall Tryz.prog G 89 [.agg (zHt m), .agg (zV7 (p:Int) lvl hi)] (ei (wdP m p lvl hi)):=by
 obtain ⟨V, h90, _⟩:=zX0 (G:=G) m p lvl hi hm hp hv
 unfold wdP
 cases hi with
 | true=>
  cases hn:isP m p lvl true with
  | true=>rw [hn] at h90; exact zW3 m p lvl hm hp hv V h90
  | false=>rw [hn] at h90; exact zXw m p lvl hm hp hv V h90
 | false=>
  cases hn:isP m p lvl false with
  | true=>rw [hn] at h90; exact zWU m p lvl hm hp hv V h90
  | false=>rw [hn] at h90; exact zXc m p lvl hm hp hv V h90
theorem zWO {m:Mp} {p:Nat} {lvl:Int} (hm:okM m) (hp:p < npt m) (hv:1 <= lvl /\ lvl <= 99999):(inB (p:Int) 0 (m.wide * m.rows - 1) && inB lvl 1 99999) = true:=by
 have hn:=zJF hm
 rw [zLa, zdh, zdh]; omega
theorem zWw (m:Mp) (p:Nat) (lvl:Int) (hm:okM m) (hc:zH5 m = none) (hp:p < npt m) (hv:1 <= lvl /\ lvl <= 99999):ACall Tryz.prog G 37 [.agg (eMp m), ei (p:Int), ei lvl] (.tup [ei (wdP m p lvl false), ei 0]):=
 zYR m (p:Int) lvl _ (zXJ m (p:Int) lvl false hm (zWO hm hp hv) hc) (zXZ m p lvl false hm hp hv)
theorem zWn (m:Mp) (p:Nat) (lvl:Int) (hm:okM m) (hc:zH5 m = none) (hp:p < npt m) (hv:1 <= lvl /\ lvl <= 99999):ACall Tryz.prog G 38 [.agg (eMp m), ei (p:Int), ei lvl] (.tup [ei (wdP m p lvl true), ei 0]):=
 zYQ m (p:Int) lvl _ (zXJ m (p:Int) lvl true hm (zWO hm hp hv) hc) (zXZ m p lvl true hm hp hv)
theorem zWo (m:Mp) (p:Nat) (lvl:Int) (hi:Bool) (hm:okM m) (hc:zH5 m = none) (hp:p < npt m) (hv:1 <= lvl /\ lvl <= 99999):ACall Tryz.prog G 39 [.agg (eMp m), ei (p:Int), ei lvl, .v (.bool hi)] (.tup [.agg (zHF (xP m p lvl hi)), ei (gP m p lvl hi)]):=by
 obtain ⟨V, h90, hV⟩:=zX0 (G:=G) m p lvl hi hm hp hv
 have h88:=zXJ (G:=G) m (p:Int) lvl hi hm (zWO hm hp hv) hc
 unfold xP gP
 cases hn:isP m p lvl hi with
 | true=>rw [hn] at h90; rw [hV hn] at h90; exact zYB m (p:Int) lvl hi h88 _ h90
 | false=>rw [hn] at h90; exact zYT m (p:Int) lvl hi h88 V h90
theorem zXa {m:Mp} {p:Nat} (h:p < npt m):(los m).getD p 0 = loG m p:=by unfold los loG; simp [List.getD, h]
theorem zW9 {m:Mp} {p:Nat} (h:p < npt m):(his m).getD p 0 = hiG m p:=by unfold his hiG; simp [List.getD, h]
theorem zXK (w:Int) (a:Int):dist w a a = 0:=by unfold dist zSx; omega
theorem zWz {vals:List Int} {lvl:Int} {q:Nat}:inS vals lvl true q = true ↔ lvl <= vals.getD q 0:=by unfold inS; simp only[beq_true, decide_eq_true_eq]
theorem zWy {vals:List Int} {lvl:Int} {q:Nat}:inS vals lvl false q = true ↔ vals.getD q 0 < lvl:=by unfold inS; simp only[beq_false, Bool.not_eq_true', decide_eq_false_iff_not]; omega
theorem zWk {m:Mp} {p:Nat} {lvl:Int} {hi:Bool}:(shL m p lvl hi).length = npt m:=by simp [shL]
theorem zWA {m:Mp} {p i:Nat} {lvl:Int} {hi:Bool} (h:i < npt m):(shL m p lvl hi).getD i 0 = shG m p lvl hi i:=by simp [shL, List.getD, h]
theorem zW6 {m:Mp} (hm:okM m) (hc:zH5 m = none) {p:Nat} {lvl:Int} {hi:Bool} (hp:p < npt m) (hv:1 <= lvl /\ lvl <= 99999) (hn:zWr m p lvl hi = false):FitsM m ⟨m.wide, shL m p lvl hi⟩ /\ zHz ⟨m.wide, shL m p lvl hi⟩ = true:=by
 cases hi with
 | true=>
  have h1:lvl <= hiG m p:=by have h:=hn; unfold zWr at h; dsimp only at h; rw [zW9 hp] at h; simpa using h
  rw [sh_hi]
  exact ⟨zYz hm hc h1, zVn hm fun i hi=>zYX hm hv.2 hi⟩
 | false=>
  have h1:loG m p <= lvl - 1:=by have h:=hn; unfold zWr at h; dsimp only at h; rw [zXa hp] at h; simp at h; omega
  rw [sh_lo]
  exact ⟨zYC hm hc h1, zVn hm fun i hi=>zY2 hm (by omega) hi⟩
theorem zXD {m:Mp} (hm:okM m) {p:Nat} {lvl:Int} {hi:Bool} {f:Fld} (hF:FitsM m f) (hf:zHz f = true) (hlen:f.vals.length = npt m) (hp:p < npt m) (hs:inS f.vals lvl hi p = true):∀ q, q < npt m -> match hi with
  | true=>shG m p lvl true q <= f.vals.getD q 0
  | false=>f.vals.getD q 0 <= shG m p lvl false q:=fun q hq=>by
 obtain ⟨_, _, hvb⟩:=zJI hf
 have hq2:q < f.vals.length:=by omega
 have hp2:p < f.vals.length:=by omega
 have hb:=hvb (f.vals[q]) (List.getElem_mem hq2)
 have hqv:vAt f q = f.vals[q]:=by simp [vAt, List.getD, hq2]
 have h1:=hF.lo hm hq2 (by rw [hqv]; exact hb.1)
 have h2:=hF.hi hm hq2 (by rw [hqv]; exact hb.2)
 have h3:=hF.lip hm hp2 hq2
 have h4:=hF.lip hm hq2 hp2
 have hcm:dist m.wide (q:Int) (p:Int) = dist m.wide (p:Int) (q:Int):=by unfold dist zSx; omega
 rw [hcm] at h4
 unfold vAt at h1 h2 h3 h4
 cases hi with
 | true=>
  have h5:lvl <= f.vals.getD p 0:=zWz.1 hs
  show shG m p lvl true q <= _
  rw [zXG hq]
  unfold loG shD
  omega
 | false=>
  have h5:f.vals.getD p 0 < lvl:=zWy.1 hs
  show _ <= shG m p lvl false q
  rw [zXF hq]
  unfold zG hiG
  omega
theorem zXq {m:Mp} (hm:okM m) {p:Nat} {lvl:Int} {hi:Bool} (hp:p < npt m):zWX m.wide m.rows (shL m p lvl hi) lvl hi p = zV2 ⟨m.wide, shL m p lvl hi⟩ lvl hi p:=by
 have hn:=zJF hm
 obtain ⟨m1, m2, m3, m4, _⟩:=hm
 exact zXj m1 m3 (by rw [zWk]; omega) (by rw [zWk]; exact hp)
theorem zYM {m:Mp} (hm:okM m) {p:Nat} {lvl:Int} {hi:Bool} {f:Fld} (hF:FitsM m f) (hf:zHz f = true) (hlen:f.vals.length = npt m) (hp:p < npt m) (h:zV2 f lvl hi p = true):isP m p lvl hi = true:=by
 have hs:=((zWc (f:=f) (by omega)).1 h).1
 have hx:=zXD hm hF hf hlen hp hs
 obtain ⟨_, _, hvb⟩:=zJI hf
 have hp2:p < f.vals.length:=by omega
 have hb:=hvb (f.vals[p]) (List.getElem_mem hp2)
 have hqv:vAt f p = f.vals[p]:=by simp [vAt, List.getD, hp2]
 have h1:=hF.lo hm hp2 (by rw [hqv]; exact hb.1)
 have h2:=hF.hi hm hp2 (by rw [hqv]; exact hb.2)
 unfold vAt at h1 h2
 unfold isP
 rw [zXq hm hp]
 have hself:=zXK m.wide (p:Int)
 cases hi with
 | true=>
  have h5:lvl <= f.vals.getD p 0:=zWz.1 hs
  rw [show zWr m p lvl true = false from by unfold zWr; dsimp only; rw [zW9 hp]; unfold hiG; simp; omega]
  refine zWj (f:=f) hF.wide (by rw [zWk, hlen]) (by omega) (fun q hq hx2=>?_) ?_ h
  ·
   have:=hx q (by omega)
   dsimp only at this
   rw [zWz, zWA (by omega)] at hx2
   rw [zWz]; omega
  ·
   rw [zWz, zWA hp, zXG hp]; unfold shD; rw [hself]; omega
 | false=>
  have h5:f.vals.getD p 0 < lvl:=zWy.1 hs
  rw [show zWr m p lvl false = false from by unfold zWr; dsimp only; rw [zXa hp]; unfold loG; simp; omega]
  refine zWj (f:=f) hF.wide (by rw [zWk, hlen]) (by omega) (fun q hq hx2=>?_) ?_ h
  ·
   have:=hx q (by omega)
   dsimp only at this
   rw [zWy, zWA (by omega)] at hx2
   rw [zWy]; omega
  ·
   rw [zWy, zWA hp, zXF hp]; unfold zG; rw [hself]; omega
theorem zXW {m:Mp} (hm:okM m) {p:Nat} {lvl:Int} {hi:Bool} {f:Fld} (hF:FitsM m f) (hf:zHz f = true) (hlen:f.vals.length = npt m) (hp:p < npt m) (h:wX m p lvl hi = true):zV2 f lvl hi p = true:=by
 obtain ⟨_, _, hvb⟩:=zJI hf
 have hn:=zJF hm
 have hb:∀ q, q < npt m -> loG m q <= f.vals.getD q 0 /\ f.vals.getD q 0 <= hiG m q:=fun q hq=>by
  have hq2:q < f.vals.length:=by omega
  have hb:=hvb (f.vals[q]) (List.getElem_mem hq2)
  have hqv:vAt f q = f.vals[q]:=by simp [vAt, List.getD, hq2]
  have h1:=hF.lo hm hq2 (by rw [hqv]; exact hb.1)
  have h2:=hF.hi hm hq2 (by rw [hqv]; exact hb.2)
  exact ⟨h1, h2⟩
 obtain ⟨m1, m2, m3, m4, _⟩:=hm
 cases hi with
 | true=>
  unfold wX at h
  dsimp only at h
  rw [zLa, zXj m1 m3 (by rw [zK3]; omega) (by rw [zK3]; exact hp), zXa hp] at h
  refine zWj (f:=⟨m.wide, his m⟩) hF.wide.symm (by rw [hlen]; exact zK3 m) (by rw [zK3]; exact hp) (fun q hq hx2=>?_) ?_ h.2
  ·
   have hq2:q < npt m:=by rw [zK3] at hq; exact hq
   have:=hb q hq2
   rw [zWz] at hx2
   rw [zWz, zW9 hq2]; omega
  ·
   have:=hb p hp
   have h3:=h.1
   rw [zWz]; simp at h3; omega
 | false=>
  unfold wX at h
  dsimp only at h
  rw [zLa, zXj m1 m3 (by rw [zK2]; omega) (by rw [zK2]; exact hp), zW9 hp] at h
  refine zWj (f:=⟨m.wide, los m⟩) hF.wide.symm (by rw [hlen]; exact zK2 m) (by rw [zK2]; exact hp) (fun q hq hx2=>?_) ?_ h.2
  ·
   have hq2:q < npt m:=by rw [zK2] at hq; exact hq
   have:=hb q hq2
   rw [zWy] at hx2
   rw [zWy, zXa hq2]; omega
  ·
   have:=hb p hp
   have h3:=h.1
   rw [zWy]; simp at h3; omega
end Go.Av
end
