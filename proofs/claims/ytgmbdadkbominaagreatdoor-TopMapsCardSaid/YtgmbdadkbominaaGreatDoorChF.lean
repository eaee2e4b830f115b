import Derived.Test.YtgmbdadkbominaaGreatDoorChE
set_option linter.unusedVariables false
set_option linter.unusedSimpArgs false
section
namespace Go.Av
namespace Ct
open Go.Proofs
set_option maxRecDepth 100000
set_option maxHeartbeats 1000000
variable {G:Glob}
def xX (w r p:Int):Bool:=(((p / w == 0) || (p / w == r - 1)) || (p % w == 0)) || (p % w == w - 1)
theorem f190 (w r p:Int) (hw:1 <= w /\ w <= 1000) (hr:1 <= r /\ r <= 1000) (hp:0 <= p /\ p <= 100000):ACall Tryz.prog G 332 [.agg (vS w r), .v (.int .i64 p)] (.v (.bool (xX w r p))):=by
 refine zO Tryz.func332 Y (by kernel_rfl) Y ?_
 refine zn (zf (ql Y (zQ Y)) (zf (zg Y Y) (zo (zt ?_))))
 refine qp mixed (by kernel_rfl) Y ?_
 refine zu Y (zK Y Y yw (by exact zLb Y)) (zu Y (zh Y Y) (zu Y (zB (av:=[_, _]) Y ⟨Y, Y, trivial⟩ (f120 w r p hw.1 hp)) (zu Y (qR Y Y Y) (zu Y (zh Y Y) (zq Y (fun hg=>zK Y Y yw (by exact zLb Y)) (zq Y (fun hg=>zh Y Y) ?_))))))
 refine zq Y (fun hg=>zB (av:=[_, _]) Y ⟨(by exact if_pos hg), (by exact if_pos hg), trivial⟩ (f120 w r p hw.1 hp)) ?_
 refine zq Y (fun hg=>zi Y Y ziE) (zq Y (fun hg=>zl Y (if_pos hg) Y ty3) ?_)
 refine zq Y (fun hg=>vN Y (if_pos hg) Y ⟨(by first | omega | (simp at hg; omega)), (by first | omega | (simp at hg; omega))⟩) ?_
 refine zq Y (fun hg=>qR Y (if_pos hg) (if_pos hg)) (zu Y (jf Y Y Y Y) (zu Y (zh Y Y) (zq Y (fun hg=>zK Y Y yw (by exact zLb Y)) (zq Y (fun hg=>zh Y Y) ?_))))
 refine zq Y (fun hg=>zB (av:=[_, _]) Y ⟨(by exact if_pos hg), (by exact if_pos hg), trivial⟩ (f121 w r p hw.1 hp)) ?_
 refine zq Y (fun hg=>qR Y (if_pos hg) Y) (zu Y (jf Y Y Y Y) (zu Y (zh Y Y) (zq Y (fun hg=>zK Y Y yw (by exact zLb Y)) (zq Y (fun hg=>zh Y Y) ?_))))
 refine zq Y (fun hg=>zB (av:=[_, _]) Y ⟨(by exact if_pos hg), (by exact if_pos hg), trivial⟩ (f121 w r p hw.1 hp)) ?_
 refine zq Y (fun hg=>zi Y Y zdQ) (zq Y (fun hg=>zl Y (if_pos hg) Y ty3) ?_)
 refine zq Y (fun hg=>vN Y (if_pos hg) Y ⟨(by first | omega | (simp at hg; omega)), (by first | omega | (simp at hg; omega))⟩) ?_
 refine zq Y (fun hg=>qR Y (if_pos hg) (if_pos hg)) (zu Y (jf Y Y Y Y) (zu Y (zg Y Y) (qF (zk (zN ?_)))))
 exact ⟨.inr Y, AVle.refl _⟩
end Ct
end Go.Av
end
section
namespace Go.Av.Pn.Ct
end Go.Av.Pn.Ct
namespace Go.Av.Ct
end Go.Av.Ct
namespace Go.Av.Pn
namespace Ct
open Go.Av.Ct
open Go.Av Go.Proofs Go.RowKit
set_option maxRecDepth 100000
set_option maxHeartbeats 1000000
variable {G:Glob}
def encI (n:Int):Value:=.int .i64 n
def zgz (m:List Nat):List (Int × EV):=m.map fun (p:Nat)=>((p:Int), B true)
theorem zj8 (c:Nat):∀ m:List Nat, ziF (c:Int) (.pub (ofV (.bool false))) (zgz m) = B (m.contains c)
 | []=>rfl
 | x :: m=>by
  show (if (x:Int) = (c:Int) then B true else ziF (c:Int) (.pub (ofV (.bool false))) (zgz m)) = _
  rw [zj8 c m, List.contains_cons]
  by_cases h:x = c
  ·subst h; simp
  ·rw [if_neg (by omega)]
   rw [show (c == x) = false from by simpa using Ne.symm h]; rfl
theorem zjV {c:Nat}:∀ {m:List Nat}, c ∉ m -> zgD (c:Int) (B true) (zgz m) = zgz (m ++ [c])
 | [], _=>rfl
 | x :: m, h=>by
  have h1:x ≠ c:=fun e=>h (by simp [e])
  have h2:c ∉ m:=fun e=>h (by simp [e])
  show (if (x:Int) = (c:Int) then _ else ((x:Int), B true) :: zgD (c:Int) (B true) (zgz m)) = _
  rw [if_neg (by omega), zjV h2]; rfl
section
variable (ed:Nat -> Bool) (nb:Nat -> List Nat) (se:Nat -> Bool)
def stp (f:List Nat -> Nat -> List Nat × Option Nat) (s:List Nat × Option Nat) (q:Nat):List Nat × Option Nat:=
 match s.2 with
 | some _=>s
 | none=>bif se q && !s.1.contains q then f s.1 q else s
def sch:Nat -> List Nat -> Nat -> List Nat × Option Nat
 | 0, m, _=>(m, none)
 | n + 1, m, p=>bif ed p then (m, some p) else (nb p).foldl (stp se (sch n)) (m ++ [p], none)
end
def SM (caps:List EV) (m:List Nat):List PO:=[zkO encI (zgz m), .row [[.mpv 0]], .row [[.fnm 331 [] caps]]]
def ztH (caps:List EV):List Nat × Option Nat -> MOut
 | (m, none)=>.ret (.pub (.tup [])) (SM caps m)
 | (m, some x)=>.pan (.ifc 391 (.agg [ei (x:Int)])) (SM caps m)
theorem zif {ed:Nat -> Bool} {nb:Nat -> List Nat} {se:Nat -> Bool} {n p:Nat} {m:List Nat} (h:ed p = false):sch ed nb se (n + 1) m p = (nb p).foldl (stp se (sch ed nb se n)) (m ++ [p], none):=by
 show (bif ed p then _ else _) = _
 rw [h]; rfl
theorem zeL {ed:Nat -> Bool} {nb:Nat -> List Nat} {se:Nat -> Bool} {n p:Nat} {m:List Nat} (h:ed p = true):sch ed nb se (n + 1) m p = (m, some p):=by
 show (bif ed p then _ else _) = _
 rw [h]; rfl
def pre (se:Nat -> Bool) (f:List Nat -> Nat -> List Nat × Option Nat) (xs:List Nat) (m:List Nat) (k:Nat):List Nat × Option Nat:=(xs.take k).foldl (stp se f) (m, none)
theorem zj5 {se:Nat -> Bool} {f:List Nat -> Nat -> List Nat × Option Nat} {xs m:List Nat} {k q:Nat} (h:xs[k]? = some q):pre se f xs m (k + 1) = stp se f (pre se f xs m k) q:=by
 unfold pre
 rw [List.take_add_one, h, Option.toList_some, List.foldl_append]; rfl
theorem zdC {se:Nat -> Bool} {f:List Nat -> Nat -> List Nat × Option Nat} {s:List Nat × Option Nat} (h:s.2.isSome = true):∀ xs:List Nat, xs.foldl (stp se f) s = s
 | []=>rfl
 | x :: t=>by
  rw [List.foldl_cons, show stp se f s x = s from by unfold stp; cases e:s.2 with | none=>rw [e] at h; cases h | some y=>rfl]
  exact zdC h t
theorem zo8 {se:Nat -> Bool} {f:List Nat -> Nat -> List Nat × Option Nat} {xs m:List Nat} {k:Nat} (h:(pre se f xs m k).2.isSome = true):xs.foldl (stp se f) (m, none) = pre se f xs m k:=by
 conv=>lhs; rw [← List.take_append_drop k xs, List.foldl_append]
 exact zdC h _
structure Kp (N:Nat) (m m':List Nat):Prop where
 nd:m'.Nodup
 lt:∀ x ∈ m', x < N
 sub:∀ x ∈ m, x ∈ m'
 le:m.length <= m'.length
theorem zki {ed:Nat -> Bool} {nb:Nat -> List Nat} {se:Nat -> Bool} {N:Nat} (hnb:∀ p, ∀ q ∈ nb p, q < N):∀ (n:Nat) (m:List Nat) (p:Nat), p < N -> p ∉ m -> m.Nodup -> (∀ x ∈ m, x < N) -> Kp N m (sch ed nb se n m p).1
 | 0, m, p, _, _, h3, h4=>⟨h3, h4, fun _ h=>h, Nat.le_refl _⟩
 | n + 1, m, p, h1, h2, h3, h4=>by
  cases he:ed p with
  | true=>rw [zeL he]; exact ⟨h3, h4, fun _ h=>h, Nat.le_refl _⟩
  | false=>
   rw [zif he]
   have key:∀ (xs:List Nat) (s:List Nat × Option Nat), (∀ q ∈ xs, q < N) -> s.1.Nodup -> (∀ x ∈ s.1, x < N) -> Kp N s.1 (xs.foldl (stp se (sch ed nb se n)) s).1:=by
    intro xs
    induction xs with
    | nil=>intro s _ a b; exact ⟨a, b, fun _ h=>h, Nat.le_refl _⟩
    | cons q t ih=>
     intro s hq a b
     rw [List.foldl_cons]
     have hs:Kp N s.1 (stp se (sch ed nb se n) s q).1:=by
      unfold stp
      cases s.2 with
      | some x=>exact ⟨a, b, fun _ h=>h, Nat.le_refl _⟩
      | none=>
       cases hc:(se q && !s.1.contains q) with
       | false=>exact ⟨a, b, fun _ h=>h, Nat.le_refl _⟩
       | true=>
        simp only[zLa, Bool.not_eq_true'] at hc
        exact zki hnb n s.1 q (hq q (List.mem_cons_self ..)) (fun h=>by rw [List.contains_iff_mem.2 h] at hc; cases hc.2) a b
     have ht:=ih _ (fun x hx=>hq x (List.mem_cons_of_mem _ hx)) hs.nd hs.lt
     exact ⟨ht.nd, ht.lt, fun x hx=>ht.sub x (hs.sub x hx), Nat.le_trans hs.le ht.le⟩
   have hk:=key (nb p) (m ++ [p], none) (hnb p) (by
    show (m ++ [p]).Nodup
    rw [List.nodup_append]; exact ⟨h3, by simp, fun a ha b hb=>by simp at hb; subst hb; exact fun e=>h2 (e ▸ ha)⟩) (fun x hx=>by rcases List.mem_append.1 hx with h | h; exact h4 x h; rw [List.mem_singleton] at h; subst h; exact h1)
   exact ⟨hk.nd, hk.lt, fun x hx=>hk.sub x (List.mem_append.2 (.inl hx)), Nat.le_trans (by simp) hk.le⟩
theorem zsb {ed:Nat -> Bool} {nb:Nat -> List Nat} {se:Nat -> Bool} {N:Nat} (hnb:∀ p, ∀ q ∈ nb p, q < N) (n:Nat):∀ (xs m:List Nat) (k:Nat), (∀ q ∈ xs, q < N) -> m.Nodup -> (∀ x ∈ m, x < N) -> Kp N m (pre se (sch ed nb se n) xs m k).1:=by
 intro xs m k hx hm hl
 induction k with
 | zero=>exact ⟨hm, hl, fun _ h=>h, Nat.le_refl _⟩
 | succ k ih=>
  cases hq:xs[k]? with
  | none=>
   have:pre se (sch ed nb se n) xs m (k + 1) = pre se (sch ed nb se n) xs m k:=by
    unfold pre
    rw [List.take_of_length_le (by have:=List.getElem?_eq_none_iff.1 hq; omega), List.take_of_length_le (by have:=List.getElem?_eq_none_iff.1 hq; omega)]
   rw [this]; exact ih
  | some q=>
   rw [zj5 hq]
   unfold stp
   cases h2:(pre se (sch ed nb se n) xs m k).2 with
   | some x=>exact ih
   | none=>
    cases hc:(se q && !(pre se (sch ed nb se n) xs m k).1.contains q) with
    | false=>exact ih
    | true=>
     simp only[zLa, Bool.not_eq_true'] at hc
     have:=zki (ed:=ed) (se:=se) hnb n (pre se (sch ed nb se n) xs m k).1 q (hx q (List.mem_of_getElem? hq)) (fun h=>by rw [List.contains_iff_mem.2 h] at hc; cases hc.2) ih.nd ih.lt
     exact ⟨this.nd, this.lt, fun x h=>this.sub x (ih.sub x h), Nat.le_trans ih.le this.le⟩
end Ct
end Go.Av.Pn
end
section
namespace Go.Av.Pn.Ct
end Go.Av.Pn.Ct
namespace Go.Av.Ct
end Go.Av.Ct
namespace Go.Av.Pn
namespace Ct
open Go.Av.Ct
open Go.Av
set_option maxRecDepth 100000
inductive Rc (nb:Nat -> Nat -> Prop) (S:Nat -> Bool) (p:Nat):Nat -> Prop
 | base:Rc nb S p p
 | step {q x:Nat}:Rc nb S p q -> nb q x -> S x = true -> Rc nb S p x
theorem Rc.cons {nb:Nat -> Nat -> Prop} {S:Nat -> Bool} {p q x:Nat} (h1:nb p q) (h2:S q = true) (h:Rc nb S q x):Rc nb S p x:=by
 induction h with
 | base=>exact .step .base h1 h2
 | step _ h3 h4 ih=>exact .step ih h3 h4
theorem Rc.sub {nb nb':Nat -> Nat -> Prop} {S S':Nat -> Bool} {p x:Nat} (hn:∀ a b, nb a b -> S b = true -> nb' a b /\ S' b = true) (h:Rc nb S p x):Rc nb' S' p x:=by
 induction h with
 | base=>exact .base
 | step _ h3 h4 ih=>exact .step ih (hn _ _ h3 h4).1 (hn _ _ h3 h4).2
section
variable {ed:Nat -> Bool} {nb:Nat -> List Nat} {se:Nat -> Bool} {N:Nat}
def Gd (ed:Nat -> Bool) (nb:Nat -> List Nat) (se:Nat -> Bool) (m:List Nat) (x:Nat):Prop:=ed x = false /\ ∀ y ∈ nb x, se y = true -> y ∈ m
theorem Gd.mono {m m':List Nat} {x:Nat} (h:Gd ed nb se m x) (hs:∀ y ∈ m, y ∈ m'):Gd ed nb se m' x:=⟨h.1, fun y hy hse=>hs y (h.2 y hy hse)⟩
theorem zi2 (hnb:∀ p, ∀ q ∈ nb p, q < N):∀ (n:Nat) (m:List Nat) (p:Nat), p < N -> p ∉ m -> m.Nodup -> (∀ x ∈ m, x < N) -> N < m.length + n -> (sch ed nb se n m p).2 = none ->
  p ∈ (sch ed nb se n m p).1 /\ (∀ x ∈ m, x ∈ (sch ed nb se n m p).1) /\ ∀ x ∈ (sch ed nb se n m p).1, x ∉ m -> Gd ed nb se (sch ed nb se n m p).1 x
 | 0, m, p, _, _, h3, h4, h5, _=>absurd (List.Nodup.length_le_of_subset (l₂:=List.range N) h3 fun x hx=>List.mem_range.2 (h4 x hx)) (by rw [List.length_range]; omega)
 | n + 1, m, p, h1, h2, h3, h4, h5, h6=>by
  cases he:ed p with
  | true=>rw [zeL he] at h6; cases h6
  | false=>
   rw [zif he] at h6 ⊢
   have key:∀ (xs:List Nat) (s:List Nat), (∀ q ∈ xs, q < N) -> s.Nodup -> (∀ x ∈ s, x < N) -> N < s.length + n -> (xs.foldl (stp se (sch ed nb se n)) (s, none)).2 = none ->
     (∀ x ∈ s, x ∈ (xs.foldl (stp se (sch ed nb se n)) (s, none)).1) /\ (∀ y ∈ xs, se y = true -> y ∈ (xs.foldl (stp se (sch ed nb se n)) (s, none)).1) /\
     ∀ x ∈ (xs.foldl (stp se (sch ed nb se n)) (s, none)).1, x ∉ s -> Gd ed nb se (xs.foldl (stp se (sch ed nb se n)) (s, none)).1 x:=by
    intro xs
    induction xs with
    | nil=>intro s _ _ _ _ _; exact ⟨fun _ h=>h, fun _ h=>(by cases h), fun x hx hn=>absurd hx hn⟩
    | cons q t ih=>
     intro s hq hs1 hs2 hs3 hno
     rw [List.foldl_cons] at hno ⊢
     cases hc:(se q && !s.contains q) with
     | false=>
      have hst:stp se (sch ed nb se n) (s, none) q = (s, none):=by unfold stp; dsimp only; rw [hc]; rfl
      rw [hst] at hno ⊢
      obtain ⟨a, b, c⟩:=ih s (fun x hx=>hq x (List.mem_cons_of_mem _ hx)) hs1 hs2 hs3 hno
      refine ⟨a, fun y hy hse=>?_, c⟩
      rcases List.mem_cons.1 hy with rfl | hy
      ·rw [hse, Bool.true_and, Bool.not_eq_false'] at hc
       exact a y (List.contains_iff_mem.1 hc)
      ·exact b y hy hse
     | true=>
      have hst:stp se (sch ed nb se n) (s, none) q = sch ed nb se n s q:=by unfold stp; dsimp only; rw [hc]; rfl
      rw [hst] at hno ⊢
      simp only[zLa, Bool.not_eq_true'] at hc
      have hqs:q ∉ s:=fun h=>by rw [List.contains_iff_mem.2 h] at hc; cases hc.2
      have hqN:=hq q (List.mem_cons_self ..)
      have hkp:=zki (ed:=ed) (se:=se) hnb n s q hqN hqs hs1 hs2
      cases ho:(sch ed nb se n s q).2 with
      | some y=>
       rw [zdC (by rw [ho]; rfl)] at hno
       rw [ho] at hno; cases hno
      | none=>
       obtain ⟨a1, b1, c1⟩:=zi2 hnb n s q hqN hqs hs1 hs2 hs3 ho
       have hpair:sch ed nb se n s q = ((sch ed nb se n s q).1, none):=Prod.ext rfl ho
       generalize (sch ed nb se n s q).1 = s1 at hkp a1 b1 c1 hpair
       rw [hpair] at hno ⊢
       obtain ⟨a, b, c⟩:=ih s1 (fun x hx=>hq x (List.mem_cons_of_mem _ hx)) hkp.nd hkp.lt (by have:=hkp.le; omega) hno
       refine ⟨fun x hx=>a x (b1 x hx), fun y hy hse=>?_, fun x hx hn=>?_⟩
       ·rcases List.mem_cons.1 hy with rfl | hy
        ·exact a y a1
        ·exact b y hy hse
       ·by_cases h:x ∈ s1
        ·exact (c1 x h hn).mono a
        ·exact c x hx h
   obtain ⟨a, b, c⟩:=key (nb p) (m ++ [p]) (hnb p) (by rw [List.nodup_append]; exact ⟨h3, by simp, fun a ha b hb=>by simp at hb; subst hb; exact fun e=>h2 (e ▸ ha)⟩) (fun x hx=>by rcases List.mem_append.1 hx with h | h; exact h4 x h; rw [List.mem_singleton] at h; subst h; exact h1) (by simp; omega) h6
   refine ⟨a p (by simp), fun x hx=>a x (by simp [hx]), fun x hx hn=>?_⟩
   by_cases h:x = p
   ·subst h; exact ⟨he, b⟩
   ·exact c x hx (by simp [hn, h])
theorem ziX:∀ (n:Nat) (m:List Nat) (p x:Nat), (sch ed nb se n m p).2 = some x -> ed x = true /\ Rc (fun a b=>b ∈ nb a) se p x
 | 0, m, p, x, h=>by cases h
 | n + 1, m, p, x, h=>by
  cases he:ed p with
  | true=>rw [zeL he] at h; injection h with h; subst h; exact ⟨he, .base⟩
  | false=>
   rw [zif he] at h
   have key:∀ (xs:List Nat) (s:List Nat), (xs.foldl (stp se (sch ed nb se n)) (s, none)).2 = some x -> ed x = true /\ ∃ q ∈ xs, se q = true /\ Rc (fun a b=>b ∈ nb a) se q x:=by
    intro xs
    induction xs with
    | nil=>intro s hs; cases hs
    | cons q t ih=>
     intro s hs
     rw [List.foldl_cons] at hs
     cases hc:(se q && !s.contains q) with
     | false=>
      rw [show stp se (sch ed nb se n) (s, none) q = (s, none) from by unfold stp; dsimp only; rw [hc]; rfl] at hs
      obtain ⟨h1, y, h2, h3⟩:=ih s hs
      exact ⟨h1, y, List.mem_cons_of_mem _ h2, h3⟩
     | true=>
      rw [show stp se (sch ed nb se n) (s, none) q = sch ed nb se n s q from by unfold stp; dsimp only; rw [hc]; rfl] at hs
      simp only[zLa] at hc
      cases ho:(sch ed nb se n s q).2 with
      | some y=>
       rw [zdC (by rw [ho]; rfl), ho] at hs
       injection hs with hs; subst hs
       obtain ⟨h1, h2⟩:=ziX n s q y ho
       exact ⟨h1, q, List.mem_cons_self .., hc.1, h2⟩
      | none=>
       rw [show sch ed nb se n s q = ((sch ed nb se n s q).1, none) from Prod.ext rfl ho] at hs
       obtain ⟨h1, y, h2, h3⟩:=ih _ hs
       exact ⟨h1, y, List.mem_cons_of_mem _ h2, h3⟩
   obtain ⟨h1, q, h2, h3, h4⟩:=key (nb p) (m ++ [p]) h
   exact ⟨h1, h4.cons h2 h3⟩
theorem zqN (hnb:∀ p, ∀ q ∈ nb p, q < N) {p:Nat} (hp:p < N):(sch ed nb se (N + 1) [] p).2 = none ↔ ∀ x, Rc (fun a b=>b ∈ nb a) se p x -> ed x = false:=by
 constructor
 ·intro h x hx
  obtain ⟨a, _, c⟩:=zi2 (ed:=ed) (se:=se) hnb (N + 1) [] p hp (by simp) List.nodup_nil (by simp) (by simp) h
  have:x ∈ (sch ed nb se (N + 1) [] p).1:=by
   induction hx with
   | base=>exact a
   | step _ h3 h4 ih=>exact (c _ ih (by simp)).2 _ h3 h4
  exact (c x this (by simp)).1
 ·intro h
  cases ho:(sch ed nb se (N + 1) [] p).2 with
  | none=>rfl
  | some x=>
   obtain ⟨h1, h2⟩:=ziX _ _ _ _ ho
   rw [h x h2] at h1; cases h1
end
end Ct
end Go.Av.Pn
end
section
namespace Go.Av.Pn.Ct
end Go.Av.Pn.Ct
namespace Go.Av.Ct
end Go.Av.Ct
namespace Go.Av.Pn
namespace Ct
open Go.Av.Ct
open Go.Av
set_option maxRecDepth 100000
def LeB (m m':List Bool):Prop:=∀ i, m.getD i false = true -> m'.getD i false = true
theorem LeB.refl (m:List Bool):LeB m m:=fun _ h=>h
theorem LeB.trans {a b c:List Bool} (h1:LeB a b) (h2:LeB b c):LeB a c:=fun i h=>h2 i (h1 i h)
theorem zcD {m:List Bool} {q i:Nat} (hq:q < m.length):(m.set q true).getD i false = (if i = q then true else m.getD i false):=by
 simp only[List.getD_eq_getElem?_getD, List.getElem?_set]
 by_cases h:i = q
 ·subst h; simp [hq]
 ·rw [if_neg (Ne.symm h), if_neg h]
theorem LeB.cnt:∀ {m m':List Bool}, m.length = m'.length -> LeB m m' -> m = m' ∨ m.count true < m'.count true
 | [], [], _, _=>.inl rfl
 | a :: t, b :: t', hl, h=>by
  have ht:=LeB.cnt (m:=t) (m':=t') (by simpa using hl) fun i hi=>h (i + 1) hi
  have h0:=h 0
  cases a <;> cases b
  ·rcases ht with rfl | ht
   ·exact .inl Y
   ·right; simp only[List.count_cons]; simpa using ht
  ·right
   simp only[List.count_cons]
   rcases ht with rfl | ht <;> simp <;> omega
  ·have:=h0 rfl
   simp at this
  ·rcases ht with rfl | ht
   ·exact .inl Y
   ·right; simp only[List.count_cons]; simpa using ht
 | [], _ :: _, hl, _=>by simp at hl
 | _ :: _, [], hl, _=>by simp at hl
section
variable {f:Fld} {lvl:Int} {hi:Bool}
theorem znU {p q:Nat} {m:List Bool} (hq:q < m.length):LeB m (stQ f lvl hi p q m):=fun i h=>by
 unfold stQ
 cases (m.getD p false && zgI f lvl hi p q) with
 | false=>exact h
 | true=>
  show (m.set q true).getD i false = true
  rw [zcD hq]
  by_cases e:i = q
  ·rw [if_pos e]
  ·rw [if_neg e]; exact h
theorem zio {p:Nat} {m:List Bool}:∀ k, k <= m.length -> LeB m (foQ f lvl hi p m k)
 | 0, _=>LeB.refl _
 | k + 1, h=>by rw [zaX]; exact (zio k (by omega)).trans (znU (by rw [zbe]; omega))
theorem ziW {p q:Nat} {m:List Bool} (hp:m.getD p false = true) (hl:zgI f lvl hi p q = true):∀ k, k <= m.length -> q < k -> (foQ f lvl hi p m k).getD q false = true
 | 0, _, h=>by omega
 | k + 1, hk, h=>by
  rw [zaX]
  by_cases e:q = k
  ·subst e
   unfold stQ
   rw [zio q (by omega) p hp, hl]
   show ((foQ f lvl hi p m q).set q true).getD q false = true
   rw [zcD (by rw [zbe]; omega), if_pos rfl]
  ·exact znU (by rw [zbe]; omega) q (ziW hp hl k (by omega) (by omega))
theorem zie {m:List Bool} (hm:m.length = f.vals.length):∀ k, LeB m (foP f lvl hi m k)
 | 0=>LeB.refl _
 | k + 1=>by rw [foP_succ]; exact (zie hm k).trans (zio _ (by rw [x8]; omega))
theorem zjf {a b:Nat} {m:List Bool} (hm:m.length = f.vals.length) (ha:m.getD a false = true) (hl:zgI f lvl hi a b = true) (hb:b < f.vals.length):∀ k, a < k -> (foP f lvl hi m k).getD b false = true
 | 0, h=>by omega
 | k + 1, h=>by
  rw [foP_succ]
  by_cases e:a = k
  ·subst e
   exact ziW (zie hm a a ha) hl _ (by rw [x8]; omega) hb
  ·exact zio _ (by rw [x8]; omega) b (zjf hm ha hl hb k (by omega))
theorem zll {m:List Bool} (hm:m.length = f.vals.length):∀ k, foP f lvl hi (foA f lvl hi m k) f.vals.length = foA f lvl hi m k ∨ m.count true + k <= (foA f lvl hi m k).count true
 | 0=>.inr (Nat.le_refl _)
 | k + 1=>by
  rw [foA_succ]
  have hl:(foA f lvl hi m k).length = f.vals.length:=by rw [zcy]; exact hm
  rcases zll hm k with h | h
  ·left; rw [h, h]
  ·rcases LeB.cnt (m:=foA f lvl hi m k) (m':=foP f lvl hi (foA f lvl hi m k) f.vals.length) (by rw [x8]) (zie hl _) with e | e
   ·left; rw [← e, ← e]
   ·right; omega
def nbR (f:Fld) (hi:Bool) (a b:Nat):Prop:=b < f.vals.length /\ ((dist f.wide (a:Int) (b:Int) == 1) || (!hi && zmK f.wide (a:Int) (b:Int))) = true
def seR (f:Fld) (lvl:Int) (hi:Bool) (b:Nat):Bool:=hiF f lvl b == hi
theorem zme {a b:Nat} (hb:b < f.vals.length):zgI f lvl hi a b = true ↔ nbR f hi a b /\ seR f lvl hi b = true:=by
 unfold zgI nbR seR
 rw [zLa]
 exact ⟨fun h=>⟨⟨hb, h.2⟩, h.1⟩, fun h=>⟨h.2, h.1.2⟩⟩
def Sd (f:Fld) (lvl:Int) (hi:Bool) (p:Nat) (m:List Bool):Prop:=∀ i, m.getD i false = true -> Rc (nbR f hi) (seR f lvl hi) p i
theorem zst {p a b:Nat} {m:List Bool} (hb:b < f.vals.length) (hm:m.length = f.vals.length) (h:Sd f lvl hi p m):Sd f lvl hi p (stQ f lvl hi a b m):=fun i hi'=>by
 unfold stQ at hi'
 cases hc:(m.getD a false && zgI f lvl hi a b) with
 | false=>rw [hc] at hi'; exact h i hi'
 | true=>
  rw [hc] at hi'
  change (m.set b true).getD i false = true at hi'
  rw [zcD (by omega)] at hi'
  by_cases e:i = b
  ·subst e
   rw [zLa] at hc
   have:=(zme hb).1 hc.2
   exact .step (h a hc.1) this.1 this.2
  ·rw [if_neg e] at hi'; exact h i hi'
theorem zop {p a:Nat} {m:List Bool} (hm:m.length = f.vals.length) (h:Sd f lvl hi p m):∀ k, k <= f.vals.length -> Sd f lvl hi p (foQ f lvl hi a m k)
 | 0, _=>h
 | k + 1, hk=>by rw [zaX]; exact zst (by omega) (by rw [zbe]; exact hm) (zop hm h k (by omega))
theorem zoU {p:Nat} {m:List Bool} (hm:m.length = f.vals.length) (h:Sd f lvl hi p m):∀ k, Sd f lvl hi p (foP f lvl hi m k)
 | 0=>h
 | k + 1=>by rw [foP_succ]; exact zop (by rw [x8]; exact hm) (zoU hm h k) _ (Nat.le_refl _)
theorem zn1 {p:Nat} {m:List Bool} (hm:m.length = f.vals.length) (h:Sd f lvl hi p m):∀ k, Sd f lvl hi p (foA f lvl hi m k)
 | 0=>h
 | k + 1=>by rw [foA_succ]; exact zoU (by rw [zcy]; exact hm) (zn1 hm h k) _
theorem zke {p:Nat} (hp:p < f.vals.length) (x:Nat):(zdj f lvl hi p).getD x false = true ↔ Rc (nbR f hi) (seR f lvl hi) p x:=by
 have hm:((List.replicate f.vals.length false).set p true).length = f.vals.length:=by simp
 have h0:∀ i, ((List.replicate f.vals.length false).set p true).getD i false = (if i = p then true else (List.replicate f.vals.length false).getD i false):=fun i=>zcD (by simpa using hp)
 constructor
 ·refine zn1 hm (fun i hi'=>?_) _ x
  rw [h0] at hi'
  by_cases e:i = p
  ·subst e; exact .base
  ·rw [if_neg e] at hi'
   simp only[List.getD_eq_getElem?_getD, List.getElem?_replicate] at hi'
   split at hi' <;> cases hi'
 ·have hlen:(zdj f lvl hi p).length = f.vals.length:=by unfold zdj; rw [zcy]; exact hm
  have hfix:foP f lvl hi (zdj f lvl hi p) f.vals.length = zdj f lvl hi p:=by
   rcases zll (f:=f) (lvl:=lvl) (hi:=hi) hm f.vals.length with h | h
   ·exact h
   ·exfalso
    have h1:=List.count_le_length (a:=true) (l:=zdj f lvl hi p)
    have h2:1 <= ((List.replicate f.vals.length false).set p true).count true:=by
     refine List.count_pos_iff.2 ?_
     exact List.mem_of_getElem? (i:=p) (by simp [hp])
    rw [hlen] at h1
    unfold zdj at h1
    omega
  have hle:LeB ((List.replicate f.vals.length false).set p true) (zdj f lvl hi p):=by
   have:∀ k, LeB ((List.replicate f.vals.length false).set p true) (foA f lvl hi ((List.replicate f.vals.length false).set p true) k):=fun k=>by
    induction k with
    | zero=>exact LeB.refl _
    | succ k ih=>rw [foA_succ]; exact ih.trans (zie (by rw [zcy]; exact hm) _)
   exact this _
  intro hx
  induction hx with
  | base=>exact hle p (by rw [h0, if_pos rfl])
  | @step q y _ h3 h4 ih=>
   rw [← hfix]
   have hq:q < f.vals.length:=by
    apply Classical.byContradiction
    intro hq
    rw [List.getD_eq_getElem?_getD, List.getElem?_eq_none (by omega)] at ih
    cases ih
   exact zjf hlen ih ((zme h3.1).2 ⟨h3, h4⟩) h3.1 _ hq
theorem zad {p:Nat} (hp:p < f.vals.length):closedR f lvl hi p = true ↔ seR f lvl hi p = true /\ ∀ x, x < f.vals.length -> Rc (nbR f hi) (seR f lvl hi) p x -> zhM f (x:Int) = false:=by
 unfold closedR
 rw [zLa, List.all_eq_true]
 refine and_congr Iff.rfl ⟨fun h x hx hr=>?_, fun h x hx=>?_⟩
 ·have:=h x (List.mem_range.2 hx)
  rw [(zke hp x).2 hr, Bool.true_and, Bool.not_eq_true'] at this
  exact this
 ·cases hm:(zdj f lvl hi p).getD x false with
  | false=>rfl
  | true=>rw [h x (List.mem_range.1 hx) ((zke hp x).1 hm)]; rfl
end
end Ct
end Go.Av.Pn
end
section
namespace Go.Av.Pn.Ct
end Go.Av.Pn.Ct
namespace Go.Av.Ct
end Go.Av.Ct
namespace Go.Av
namespace Ct
theorem ifp {α:Type} {c:Prop} [Decidable c] {a b:α} (h:c):(if c then a else b) = a:=if_pos h
end Ct
end Go.Av
namespace Go.Av.Pn
namespace Ct
open Go.Av.Ct
open Go.Av Go.Proofs Go.RowKit
set_option maxRecDepth 100000
set_option maxHeartbeats 1000000
variable {G:Glob}
theorem zt7:tyIs Tryz.prog 73 false 1 = true:=by kernel_rfl
theorem zlv:tyIs Tryz.prog 150 false 1 = true:=by kernel_rfl
theorem zjl:tyIs Tryz.prog 397 false 1 = true:=by kernel_rfl
theorem zty:vM Tryz.prog 391 [(0, 1)] [.int .i64 0]:=⟨_, Tryz.underlying391, by kernel_rfl, by kernel_rfl⟩
theorem ztu:KeyT Tryz.prog 3 encI:=zpb Tryz.underlying3
theorem zr8 {caps:List EV} {m:List Nat} {p:Nat} (h:p ∉ m):(SM caps m).set 0 (zkO encI (zgD (p:Int) (B true) (zgz m))) = SM caps (m ++ [p]):=by rw [zjV h]; rfl
theorem zoG {caps:List EV} {m:List Nat} (hc:∀ x ∈ caps, x.lt 3):zbM (SM caps m).length (SM caps m):=by
 refine ⟨fun q hq=>?_, fun r hr x hx=>?_, fun r hr x hx=>?_, trivial⟩
 ·obtain ⟨y, hy, rfl⟩:=List.mem_map.1 hq
  obtain ⟨z, _, rfl⟩:=List.mem_map.1 hy
  simp [EV.lt]
 ·rw [List.mem_singleton] at hr; subst hr
  rw [List.mem_singleton] at hx; subst hx
  show 0 < 3; omega
 ·rw [List.mem_singleton] at hr; subst hr
  rw [List.mem_singleton] at hx; subst hx
  simp only[EV.lt]
  exact ⟨trivial, EV.ltL_iff.2 hc⟩
def cps (w r:Int) (c:Bool) (gF:FuncId) (gcs:List AV):List EV:=[.pub (.ptr (vS w r)), .pp 1 1 0 0, .pub (.ptr [.v (.bool c)]), .pub (.ptr [.fn gF [] gcs]), .pp 2 1 0 0]
theorem zto (w r:Int) (c:Bool) (gF:FuncId) (gcs:List AV) (se:Nat -> Bool) (hw:1 <= w /\ w <= 6) (hr:1 <= r /\ r <= 5) (hset:∀ q:Nat, q < (w * r).toNat -> ACall Tryz.prog G gF ([ei (q:Int)] ++ gcs) (.v (.bool (se q)))):
  ∀ (n:Nat) (m:List Nat) (p:Nat), p < (w * r).toNat -> p ∉ m -> m.Nodup -> (∀ x ∈ m, x < (w * r).toNat) -> (w * r).toNat < m.length + n ->
   zeq Tryz.prog G 331 ([.pub (ei (p:Int))] ++ cps w r c gF gcs) (SM (cps w r c gF gcs) m) (ztH (cps w r c gF gcs) (sch (fun p=>xX w r (p:Int)) (fun p=>nbs w r (p:Int) c) se n m p)):=by
 intro n
 induction n with
 | zero=>
  intro m p hp hpm hnd hlt hN
  exact absurd (List.Nodup.length_le_of_subset (l₂:=List.range (w * r).toNat) hnd fun x hx=>List.mem_range.2 (hlt x hx)) (by rw [List.length_range]; omega)
 | succ n IH=>
  intro m p hp hpm hnd hlt hN
  have har:=area hw.1 hw.2 hr.1 hr.2
  have hp30:p <= 30:=by omega
  have hcl:∀ x ∈ cps w r c gF gcs, EV.lt 3 x:=fun x hx=>by
   simp only[cps, List.mem_cons, List.not_mem_nil, or_false] at hx
   rcases hx with rfl | rfl | rfl | rfl | rfl <;> simp [EV.lt]
  have hnb:∀ p:Nat, ∀ q ∈ nbs w r (p:Int) c, q < (w * r).toNat:=fun p q hq=>(zcl.1 hq).1
  have hmp:(m ++ [p]).Nodup:=by rw [List.nodup_append]; exact ⟨hnd, by simp, fun a ha b hb=>by simp at hb; subst hb; exact fun e=>hpm (e ▸ ha)⟩
  have hml:∀ x ∈ m ++ [p], x < (w * r).toNat:=fun x hx=>by
   rcases List.mem_append.1 hx with h | h
   ·exact hlt x h
   ·rw [List.mem_singleton] at h; subst h; exact hp
  have hkp:=fun k=>zsb (ed:=fun p=>xX w r (p:Int)) (se:=se) hnb n (nbs w r (p:Int) c) (m ++ [p]) k (hnb p) hmp hml
  have hpl:∀ k, m.length + 1 <= (pre se (sch (fun p=>xX w r (p:Int)) (fun p=>nbs w r (p:Int) c) se n) (nbs w r (p:Int) c) (m ++ [p]) k).1.length:=fun k=>Nat.le_trans (by simp) (hkp k).le
  have hdef:sch (fun p=>xX w r (p:Int)) (fun p=>nbs w r (p:Int) c) se (n + 1) m p = if xX w r (p:Int) = true then (m, some p) else pre se (sch (fun p=>xX w r (p:Int)) (fun p=>nbs w r (p:Int) c) se n) (nbs w r (p:Int) c) (m ++ [p]) (nbs w r (p:Int) c).length:=by
   cases he:xX w r (p:Int) with
   | true=>rw [zeL he]; rfl
   | false=>rw [zif he]; unfold pre; rw [List.take_length]; rfl
  have hst:=fun k=>zo8 (se:=se) (f:=sch (fun p=>xX w r (p:Int)) (fun p=>nbs w r (p:Int) c) se n) (xs:=nbs w r (p:Int) c) (m:=m ++ [p]) (k:=k)
  have hfull:pre se (sch (fun p=>xX w r (p:Int)) (fun p=>nbs w r (p:Int) c) se n) (nbs w r (p:Int) c) (m ++ [p]) (nbs w r (p:Int) c).length = (nbs w r (p:Int) c).foldl (stp se (sch (fun p=>xX w r (p:Int)) (fun p=>nbs w r (p:Int) c) se n)) (m ++ [p], none):=by unfold pre; rw [List.take_length]
  rw [hdef]
  have hps:=fun k q (h:(nbs w r (p:Int) c)[k]? = some q)=>zj5 (se:=se) (f:=sch (fun p=>xX w r (p:Int)) (fun p=>nbs w r (p:Int) c) se n) (m:=m ++ [p]) h
  have IH2:∀ (m':List Nat) (q:Nat), q < (w * r).toNat -> q ∉ m' -> m'.Nodup -> (∀ x ∈ m', x < (w * r).toNat) -> m.length + 1 <= m'.length -> zeq Tryz.prog G 331 ([] ++ [.pub (ei (q:Int))] ++ cps w r c gF gcs) (SM (cps w r c gF gcs) m') (ztH (cps w r c gF gcs) (sch (fun p=>xX w r (p:Int)) (fun p=>nbs w r (p:Int) c) se n m' q)):=fun m' q h1 h2 h3 h4 h5=>IH m' q h1 h2 h3 h4 (by omega)
  clear IH
  generalize sch (fun p=>xX w r (p:Int)) (fun p=>nbs w r (p:Int) c) se n = sc at hkp hpl hst hfull hps IH2 ⊢
  obtain ⟨X, hX⟩:∃ X, X = pre se sc (nbs w r (p:Int) c) (m ++ [p]) (nbs w r (p:Int) c).length:=⟨_, rfl⟩
  rw [← hX] at hfull ⊢
  refine zkR Tryz.func331 Y (by kernel_rfl) Y (fun gh hold=>?_)
  refine zkW ?_
  refine znP ?_
  refine zn (zf (zK Y Y yw (by exact zLb Y)) (zf (zh Y Y) (zf (zB (av:=[_, _]) Y ⟨Y, Y, trivial⟩ (f190 w r (p:Int) (by omega) (by omega) (by omega))) (zo (zA Y (fun h0=>?_) (fun h0=>?_))))))
  ·rw [if_pos h0]
   refine zx (zf (zh Y Y) ?_)
   refine zf (yl (cs:=[_]) Y zty Y ⟨_, _, Y, qU Y, Y⟩ (by rfl) (by simp [ofV])) ?_
   refine zf (zeJ Y Y Tryz.underlying391 Y) ?_
   refine zox Y Y Y (fun u=>?_)
   refine zo2 ?_
   exact ziY [] (List.append_nil _).symm (zoG hcl) (Nat.le_refl _) (AVle.refl _)
  ·rw [if_neg (by rw [h0]; decide)]
   refine zH (zk ?_)
   refine zkW ?_
   refine znP ?_
   refine zx (zf (zX (r:=[.mpv 0]) (c:=.mpv 0) Y Y Y Y Y Y zlv) (zf (zh Y Y) (qL Y (zjw (enc:=encI) (es:=zgz m) (a:=(p:Int)) (v:=B true) (.inl Y) Y Y Y Y zps Tryz.underlying150 ztu Y) (zo ?_))))
   refine zqS (zy (mem':=SM (cps w r c gF gcs) (m ++ [p])) [(0, .pub (ei (p:Int))), (1, .pub (.ptr (vS w r))), (2, .pp 1 1 0 0), (3, .pub (.ptr [.v (.bool c)])), (4, .pub (.ptr [.fn gF [] gcs])), (5, .pp 2 1 0 0)] ⟨Y, Y, Y, Y, Y, Y, trivial⟩ (zr8 hpm)) ?_
   refine zkW ?_
   refine znP ?_
   refine zx (zf (zK Y Y yw (by exact zLb Y)) (zf (zh Y Y) (zf (zl Y Y Y ty4) (zf (zB (av:=[_, _, _]) Y ⟨Y, Y, Y, trivial⟩ (f69 w r (p:Int) c)) (zo ?_)))))
   refine znB ?_
   refine zgg Tryz.func331 (nbs w r (p:Int) c) (fun (q:Nat)=>[ei (q:Int)]) [1, 2, 3, 4, 5] (fun k=>(pre se sc (nbs w r (p:Int) c) (m ++ [p]) k).2 = none) (fun k=>SM (cps w r c gF gcs) (pre se sc (nbs w r (p:Int) c) (m ++ [p]) k).1) Y Y (zrU w r (p:Int) c hw hr (by omega)) Y (fun _=>rfl) Y Y ?_ ?_
   ·intro k q gh2 lp hd1 hd2 hq hV
    have hqN:q < (w * r).toNat:=hnb p q (List.mem_of_getElem? hq)
    have hk:=hkp k
    have hk2:=hpl k
    have hs:=hps k q hq
    have hsk:=hst k
    have hsk1:=hst (k + 1)
    generalize hS:pre se sc (nbs w r (p:Int) c) (m ++ [p]) (k + 1) = S at hs hsk1 ⊢
    generalize pre se sc (nbs w r (p:Int) c) (m ++ [p]) k = s at hk hk2 hs hV hsk ⊢
    obtain ⟨m', o⟩:=s
    dsimp only at hk hk2 hV ⊢
    subst hV
    refine zx (zf (zg Y Y) (zM ?_))
    refine ⟨Y, Y, ?_⟩
    refine zF (zn (zf (zl Y Y Y zt7) (zf (zh Y Y) (zf (vH (av:=[ei (q:Int)]) (f:=gF) (fs:=[]) (cs:=gcs) Y Y ⟨Y, trivial⟩ (hset q hqN)) (zf (zh Y Y) (zC Y (fun hg=>zX (r:=[.mpv 0]) (c:=.mpv 0) Y Y Y Y Y Y zlv) (zC Y (fun hg=>zh Y Y) ?_)))))))
    refine zjW (x:=ziF (q:Int) (.pub (ofV (.bool false))) (zgz m')) Y Y Y (fun hg=>?_) ?_
    ·refine zmk (enc:=encI) (es:=zgz m') (a:=(q:Int)) (z:=.bool false) (l:=0) (kx:=.v (.int .i64 (q:Int))) Y ?_ Y ?_ zps Tryz.underlying150 ztu zv4
     ·exact ifp hg
     ·exact ifp hg
    rw [zj8]
    refine zC Y (fun hg=>qJ Y (ifp hg)) (zf (jg Y Y Y Y) (zo (zA Y (fun h1=>?_) (fun h1=>?_))))
    ·have hqm:q ∉ m':=fun e=>by rw [zLa, List.contains_iff_mem.2 e] at h1; cases h1.2
     have hSs:S = sc m' q:=by rw [hs]; unfold stp; dsimp only; rw [h1]; rfl
     have hcall:=IH2 m' q hqN hqm hk.nd hk.lt hk2
     rw [← hSs] at hcall
     obtain ⟨m2, o2⟩:=S
     refine zx (zf (zX (r:=[.fnm 331 [] (cps w r c gF gcs)]) (c:=.fnm 331 [] (cps w r c gF gcs)) Y Y Y Y Y Y zjl) (zf (zh Y Y) ?_))
     cases o2 with
     | none=>
      refine qL Y (zfW (f:=331) (fs:=[]) (cs:=cps w r c gF gcs) (av:=[.pub (ei (q:Int))]) Y Y ⟨Y, Y, Y⟩ ⟨Y, trivial⟩ hcall) (zM ?_)
      exact ⟨Y, Y, zy (mem':=SM (cps w r c gF gcs) m2) [] trivial Y⟩
     | some x=>
      refine zrr (f:=331) (fs:=[]) (cs:=cps w r c gF gcs) (av:=[.pub (ei (q:Int))]) Y Y ⟨Y, Y, Y⟩ ⟨Y, trivial⟩ hcall (fun u=>?_)
      have hXs:X = (m2, some x):=by rw [hfull]; exact (hsk1 rfl)
      refine ⟨_, u, Y, Y, ?_⟩
      rw [hXs]
      exact ziY (P:=Tryz.prog) (fn:=Tryz.f331) [] (List.append_nil _).symm (zoG hcl) (Nat.le_refl _) (AVle.refl _)
    ·have hSs:S = (m', none):=by rw [hs]; unfold stp; dsimp only; rw [h1]; rfl
     subst hSs
     refine zH ?_
     exact ⟨Y, Y, zy (mem':=SM (cps w r c gF gcs) m') [] trivial Y⟩
   ·intro hV
    rw [← hX] at hV ⊢
    obtain ⟨m2, o2⟩:=X
    dsimp only at hV
    subst hV
    refine zJ ?_
    exact zaE [] (List.append_nil _).symm (zoG hcl) (Nat.le_refl _) (.inl Y) trivial ⟨[], Y, Y⟩
end Ct
end Go.Av.Pn
end
section
namespace Go.Av.Pn.Ct
end Go.Av.Pn.Ct
namespace Go.Av.Ct
end Go.Av.Ct
namespace Go.Av.Pn
namespace Ct
open Go.Av.Ct
open Go.Av Go.Proofs
set_option maxRecDepth 100000
set_option maxHeartbeats 1000000
variable {G:Glob}
theorem zri:(Tryz.prog.info? 150).bind (·.zero) = some (.map none):=by kernel_rfl
theorem zrj:(Tryz.prog.info? 397).bind (·.zero) = some (.nilFunc):=by kernel_rfl
theorem znO (w r:Int) (c:Bool) (gF:FuncId) (gcs:List AV) (se:Nat -> Bool) (p:Nat) (hw:1 <= w /\ w <= 6) (hr:1 <= r /\ r <= 5) (hset:∀ q:Nat, q < (w * r).toNat -> ACall Tryz.prog G gF ([ei (q:Int)] ++ gcs) (.v (.bool (se q)))) (hp:p < (w * r).toNat) (m2:List Nat) (ho:sch (fun p=>xX w r (p:Int)) (fun p=>nbs w r (p:Int) c) se ((w * r).toNat + 1) [] p = (m2, none)):ACall Tryz.prog G 287 [.agg (vS w r), ei (p:Int), .fn gF [] gcs, .v (.bool c)] (.tup []):=by
 have hm:=zto (G:=G) w r c gF gcs se hw hr hset ((w * r).toNat + 1) [] p hp (by simp) List.nodup_nil (by simp) (by simp)
 rw [ho] at hm
 refine zO Tryz.func287 Y (by kernel_rfl) Y ?_
 refine zn (zf (ql Y (zQ Y)) (zf (ql (cs:=[_]) Y (zg4 Y)) (zf (ql (cs:=[_]) Y (qU Y)) (zo (zn (qL Y (zgX Y Y) (qL Y (jr Y Y zri Y Y) ?_)))))))
 refine qL Y (qw Y Y Y Y Y Y (zoi Y Y) zlv (by rfl) (by exact zLb Y)) ?_
 refine zo (zn (qL Y (jr Y Y zrj Y Y) (zo (zn (zf (vP Y) ?_)))))
 refine qL Y (qw Y Y Y Y Y Y (zkm Y) zjl (by rfl) (by exact zLb Y)) ?_
 refine zo (zx (zf (zX Y Y Y Y Y Y zjl) (zf (zh Y Y) (qL Y (zfW (f:=331) (fs:=[]) (cs:=cps w r c gF gcs) (av:=[.pub (ei (p:Int))]) Y Y ⟨Y, Y, Y⟩ ⟨Y, trivial⟩ hm) (zM ?_)))))
 exact ⟨.inl Y, ⟨[], Y, Y⟩⟩
theorem znF (w r:Int) (c:Bool) (gF:FuncId) (gcs:List AV) (se:Nat -> Bool) (p:Nat) (hw:1 <= w /\ w <= 6) (hr:1 <= r /\ r <= 5) (hset:∀ q:Nat, q < (w * r).toNat -> ACall Tryz.prog G gF ([ei (q:Int)] ++ gcs) (.v (.bool (se q)))) (hp:p < (w * r).toNat) (m2:List Nat) (x:Nat) (ho:sch (fun p=>xX w r (p:Int)) (fun p=>nbs w r (p:Int) c) se ((w * r).toNat + 1) [] p = (m2, some x)):znR Tryz.prog G 287 [.agg (vS w r), ei (p:Int), .fn gF [] gcs, .v (.bool c)] (.pan (.ifc 391 (.agg [ei (x:Int)]))):=by
 have hm:=zto (G:=G) w r c gF gcs se hw hr hset ((w * r).toNat + 1) [] p hp (by simp) List.nodup_nil (by simp) (by simp)
 rw [ho] at hm
 refine zqU Tryz.func287 Y (by kernel_rfl) Y ?_
 refine zn (zf (ql Y (zQ Y)) (zf (ql (cs:=[_]) Y (zg4 Y)) (zf (ql (cs:=[_]) Y (qU Y)) (zo (zn (qL Y (zgX Y Y) (qL Y (jr Y Y zri Y Y) ?_)))))))
 refine qL Y (qw Y Y Y Y Y Y (zoi Y Y) zlv (by rfl) (by exact zLb Y)) ?_
 refine zo (zn (qL Y (jr Y Y zrj Y Y) (zo (zn (zf (vP Y) ?_)))))
 refine qL Y (qw Y Y Y Y Y Y (zkm Y) zjl (by rfl) (by exact zLb Y)) ?_
 refine zo (zx (zf (zX Y Y Y Y Y Y zjl) (zf (zh Y Y) ?_)))
 refine zrr (f:=331) (fs:=[]) (cs:=cps w r c gF gcs) (av:=[.pub (ei (p:Int))]) Y Y ⟨Y, Y, Y⟩ ⟨Y, trivial⟩ hm (fun u=>?_)
 exact ⟨u, Y, List.mem_cons_self .., Y⟩
end Ct
end Go.Av.Pn
end
