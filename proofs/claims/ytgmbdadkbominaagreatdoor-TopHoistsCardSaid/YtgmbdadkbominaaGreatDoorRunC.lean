import Derived.Test.YtgmbdadkbominaaGreatDoorRunB
set_option linter.unusedVariables false
set_option linter.unusedSimpArgs false
section
namespace Go.Bv
open Go.RowKit
noncomputable section
def kQ (acc:List Nat):List Edge -> Nat
 | []=>0
 | e :: es=>bif Region.binds .any e then Nat.lor (Nat.lor (Nat.shiftLeft 1 e.on) (acc.getD e.on 0)) (kQ acc es) else kQ acc es
def zcF (ops:Array Oper) (k:Nat) (acc:List Nat):List Nat:=acc ++ [match ops[k]? with | some o=>kQ acc o.after.toList | none=>0]
def zao (ops:Array Oper):Nat -> List Nat
 | 0=>[]
 | k + 1=>zcF ops k (zao ops k)
def maskAt (ops:Array Oper) (j:Nat):Nat:=(zao ops ops.size).getD j 0
theorem zli (k:Nat):Nat.testBit 1 k = decide (k = 0):=by
 cases k with
 | zero=>rfl
 | succ k=>rw [Nat.testBit_succ]; simp
theorem za1 {acc:List Nat} {i:Nat}:∀ {es:List Edge}, (kQ acc es).testBit i = true -> ∃ e ∈ es, Region.binds .any e = true /\ (e.on = i ∨ (acc.getD e.on 0).testBit i = true)
 | [], h=>by simp [kQ] at h
 | e :: es, h=>by
  rw [kQ] at h
  cases hb:Region.binds .any e with
  | false=>
   rw [hb] at h
   obtain ⟨e', h1, h2⟩:=za1 h
   exact ⟨e', List.mem_cons_of_mem _ h1, h2⟩
  | true=>
   rw [hb] at h
   simp only[cond_true] at h
   change (((1 <<< e.on) ||| acc.getD e.on 0) ||| kQ acc es).testBit i = true at h
   rw [Nat.testBit_or, Nat.testBit_or, Bool.or_eq_true, Bool.or_eq_true] at h
   rcases h with (h | h) | h
   ·rw [Nat.testBit_shiftLeft, zLa, decide_eq_true_eq] at h
    refine ⟨e, by simp, hb, .inl ?_⟩
    have h2:=h.2
    rw [zli] at h2
    have:=of_decide_eq_true h2
    omega
   ·exact ⟨e, by simp, hb, .inr h⟩
   ·obtain ⟨e', h1, h2⟩:=za1 h
    exact ⟨e', List.mem_cons_of_mem _ h1, h2⟩
section
variable {ops:Array Oper}
theorem yX:∀ k, (zao ops k).length = k
 | 0=>rfl
 | k + 1=>by simp [zao, zcF, yX k]
theorem zbr {j:Nat}:∀ {k:Nat}, j < k -> (zao ops k).getD j 0 = (zao ops (j + 1)).getD j 0
 | 0, h=>by omega
 | k + 1, h=>by
  rcases Nat.lt_or_ge j k with h1 | h1
  ·rw [← zbr h1]
   show (zcF ops k (zao ops k)).getD j 0 = _
   unfold zcF
   rw [List.getD_eq_getElem?_getD, List.getElem?_append_left (by rw [yX]; exact h1), ← List.getD_eq_getElem?_getD]
  ·have:j = k:=by omega
   subst this; rfl
theorem zjd {j:Nat}:(zao ops (j + 1)).getD j 0 = match ops[j]? with | some o=>kQ (zao ops j) o.after.toList | none=>0:=by
 show (zcF ops j (zao ops j)).getD j 0 = _
 unfold zcF
 rw [List.getD_eq_getElem?_getD, List.getElem?_append_right (by rw [yX]; exact Nat.le_refl _), yX]
 simp
theorem wK {j:Nat} {o:Oper} (h:ops[j]? = some o):j < ops.size:=(Array.getElem?_eq_some_iff.1 h).1
theorem ziQ {j i:Nat} {o:Oper} (ho:ops[j]? = some o) (h:(maskAt ops j).testBit i = true):∃ e ∈ o.after.toList, Region.binds .any e = true /\ (e.on = i ∨ (e.on < j /\ (maskAt ops e.on).testBit i = true)):=by
 unfold maskAt at h
 rw [zbr (wK ho), zjd, ho] at h
 obtain ⟨e, h1, h2, h3⟩:=za1 h
 refine ⟨e, h1, h2, h3.imp id fun h4=>?_⟩
 have hlt:e.on < j:=by
  rcases Nat.lt_or_ge e.on j with h5 | h5
  ·exact h5
  ·rw [List.getD_eq_getElem?_getD, List.getElem?_eq_none (by rw [yX]; exact h5)] at h4
   simp at h4
 refine ⟨hlt, ?_⟩
 unfold maskAt
 rw [zbr (Nat.lt_trans hlt (wK ho)), ← zbr hlt]
 exact h4
def zcL (ops:Array Oper) (L:Nat -> Bool):Prop:=∀ j o, ops[j]? = some o -> L j = true -> ∀ e ∈ o.after.toList, Region.binds .any e = true -> L e.on = true
theorem vT {L:Nat -> Bool} (hd:zcL ops L):∀ (j:Nat) (o:Oper), ops[j]? = some o -> (∀ e ∈ o.after.toList, Region.binds .any e = true -> L e.on = true) -> ∀ i, (maskAt ops j).testBit i = true -> L i = true:=by
 intro j
 induction j using Nat.strongRecOn with
 | _ j ih=>
  intro o ho ha i hb
  obtain ⟨e, h1, h2, h3⟩:=ziQ ho hb
  rcases h3 with h3 | ⟨h3, h4⟩
  ·rw [← h3]; exact ha e h1 h2
  ·have hlt:e.on < ops.size:=Nat.lt_trans h3 (wK ho)
   exact ih e.on h3 ops[e.on] (by simp [hlt]) (hd _ _ (by simp [hlt]) (ha e h1 h2)) i h4
def upB (ops:Array Oper):Bool:=(List.range ops.size).all fun j=>match ops[j]? with | some o=>o.after.toList.all fun e=>!Region.binds .any e || Nat.blt e.on j | none=>true
theorem zgk (h:upB ops = true) {j:Nat} {o:Oper} (ho:ops[j]? = some o):∀ e ∈ o.after.toList, Region.binds .any e = true -> e.on < j:=by
 intro e he hb
 unfold upB at h
 rw [List.all_eq_true] at h
 have h1:=h j (List.mem_range.2 (wK ho))
 rw [ho] at h1
 simp only[List.all_eq_true] at h1
 have h2:=h1 e he
 rw [hb] at h2
 simpa [qo] using h2
theorem zlY (hu:upB ops = true):∀ {j i:Nat}, (maskAt ops j).testBit i = true -> i < j:=by
 intro j
 induction j using Nat.strongRecOn with
 | _ j ih=>
  intro i hb
  cases ho:ops[j]? with
  | none=>
   have hge:ops.size <= j:=by simpa using ho
   unfold maskAt at hb
   rw [List.getD_eq_getElem?_getD, List.getElem?_eq_none (by rw [yX]; exact hge)] at hb
   simp at hb
  | some o=>
   obtain ⟨e, h1, h2, h3⟩:=ziQ ho hb
   rcases h3 with h3 | ⟨h3, h4⟩
   ·rw [← h3]; exact zgk hu ho e h1 h2
   ·exact Nat.lt_trans (ih _ h3 h4) h3
def zdO:List Oper -> Nat -> Bool
 | [], _=>true
 | o :: r, seen=>match o.dst with
  | none=>zdO r seen
  | some d=>!(Nat.testBit seen d) && zdO r (Nat.lor seen (Nat.shiftLeft 1 d))
theorem zr6 {a d x:Nat}:(Nat.lor a (Nat.shiftLeft 1 d)).testBit x = (a.testBit x || decide (x = d)):=by
 change (a ||| (1 <<< d)).testBit x = _
 rw [Nat.testBit_or, Nat.testBit_shiftLeft, zli]
 congr 1
 by_cases h:x = d
 ·subst h; simp
 ·rcases Nat.lt_or_ge x d with h1 | h1
  ·simp [h]; omega
  ·simp [h]; omega
theorem zcU:∀ {l:List Oper} {seen:Nat}, zdO l seen = true -> (∀ (i:Nat) (o:Oper) (d:Nat), l[i]? = some o -> o.dst = some d -> seen.testBit d = false) /\ (∀ (i j:Nat) (o o':Oper) (d:Nat), i < j -> l[i]? = some o -> l[j]? = some o' -> o.dst = some d -> o'.dst = some d -> False)
 | [], _, _=>⟨fun i o d h=>by simp at h, fun i j o o' d _ h=>by simp at h⟩
 | o :: r, seen, h=>by
  rw [zdO] at h
  cases hd:o.dst with
  | none=>
   rw [hd] at h
   obtain ⟨h1, h2⟩:=zcU h
   refine ⟨fun i p d hi hp=>?_, fun i j p p' d hij hi hj hp hp'=>?_⟩
   ·cases i with
    | zero=>simp at hi; subst hi; rw [hd] at hp; cases hp
    | succ i=>exact h1 i p d (by simpa using hi) hp
   ·cases j with
    | zero=>omega
    | succ j=>
     cases i with
     | zero=>simp at hi; subst hi; rw [hd] at hp; cases hp
     | succ i=>exact h2 i j p p' d (by omega) (by simpa using hi) (by simpa using hj) hp hp'
  | some d0=>
   rw [hd] at h
   simp only[zLa, Bool.not_eq_true'] at h
   obtain ⟨h0, h⟩:=h
   obtain ⟨h1, h2⟩:=zcU h
   have key:∀ (i:Nat) (p:Oper) (d:Nat), r[i]? = some p -> p.dst = some d -> seen.testBit d = false /\ d ≠ d0:=fun i p d hi hp=>by
    have:=h1 i p d hi hp
    rw [zr6] at this
    simpa using this
   refine ⟨fun i p d hi hp=>?_, fun i j p p' d hij hi hj hp hp'=>?_⟩
   ·cases i with
    | zero=>simp at hi; subst hi; rw [hd] at hp; injection hp with hp; subst hp; exact h0
    | succ i=>exact (key i p d (by simpa using hi) hp).1
   ·cases j with
    | zero=>omega
    | succ j=>
     cases i with
     | zero=>simp at hi; subst hi; rw [hd] at hp; injection hp with hp; subst hp; exact (key j p' _ (by simpa using hj) hp').2 rfl
     | succ i=>exact h2 i j p p' d (by omega) (by simpa using hi) (by simpa using hj) hp hp'
theorem zsk (h:zdO ops.toList 0 = true) {i j:Nat} {o o':Oper} {d:Nat} (hi:ops[i]? = some o) (hj:ops[j]? = some o') (hd:o.dst = some d) (hd':o'.dst = some d):i = j:=by
 have h2:=(zcU h).2
 rcases Nat.lt_trichotomy i j with h1 | h1 | h1
 ·exact (h2 i j o o' d h1 (by simpa using hi) (by simpa using hj) hd hd').elim
 ·exact h1
 ·exact (h2 j i o' o d h1 (by simpa using hj) (by simpa using hi) hd' hd).elim
def zfH (ops:Array Oper) (j:Nat) (l:List Tmp):Bool:=l.all fun t=>(List.range ops.size).all fun w=>Nat.beq w j || match ops[w]? with
 | some o=>(match o.dst with | some d=>!(Nat.beq d t) || Nat.testBit (maskAt ops j) w || Nat.testBit (maskAt ops w) j | none=>true)
 | none=>true
theorem zge {j:Nat} {l:List Tmp} (h:zfH ops j l = true) {t w:Nat} {o:Oper} (ht:t ∈ l) (hw:ops[w]? = some o) (hd:o.dst = some t) (hne:w ≠ j):(maskAt ops j).testBit w = true ∨ (maskAt ops w).testBit j = true:=by
 unfold zfH at h
 rw [List.all_eq_true] at h
 have h1:=h t ht
 rw [List.all_eq_true] at h1
 have h2:=h1 w (List.mem_range.2 (wK hw))
 rw [hw] at h2
 simp only[hd, Bool.or_eq_true] at h2
 rcases h2 with h2 | (h2 | h2) | h2
 ·exact absurd (qI.1 h2) hne
 ·simp at h2
 ·exact .inl h2
 ·exact .inr h2
def zh6 (ops:Array Oper) (c:Nat):Bool:=(List.range c).all (fun i=>Nat.testBit (maskAt ops c) i) && (List.range ops.size).all fun x=>Nat.ble x c || Nat.testBit (maskAt ops x) c
theorem zhm {c:Nat} (h:zh6 ops c = true):(∀ i, i < c -> (maskAt ops c).testBit i = true) /\ ∀ x, c < x -> x < ops.size -> (maskAt ops x).testBit c = true:=by
 unfold zh6 at h
 simp only[zLa, List.all_eq_true, List.mem_range, Bool.or_eq_true] at h
 refine ⟨fun i hi=>h.1 i hi, fun x hx hs=>?_⟩
 rcases h.2 x hs with h2 | h2
 ·have:=zLb h2; omega
 ·exact h2
def unl (m:Nat) (L:Nat -> Bool):Nat:=((List.range m).filter fun i=>!L i).length
theorem zaJ (m:Nat) (L:Nat -> Bool):unl (m + 1) L = unl m L + (if L m then 0 else 1):=by
 unfold unl
 rw [List.range_succ, List.filter_append, List.length_append]
 cases h:L m <;> simp [h]
theorem zgY {m:Nat} {L L':Nat -> Bool} (h:∀ i, i < m -> L i = L' i):unl m L = unl m L':=by
 induction m with
 | zero=>rfl
 | succ m ih=>rw [zaJ, zaJ, ih (fun i hi=>h i (by omega)), h m (by omega)]
theorem zqJ {m j:Nat} {L L':Nat -> Bool} (hj:j < m) (h0:L j = false) (h1:L' j = true) (h2:∀ i, i ≠ j -> L' i = L i):unl m L = unl m L' + 1:=by
 induction m with
 | zero=>omega
 | succ m ih=>
  rw [zaJ, zaJ]
  by_cases e:j = m
  ·subst e
   rw [h0, h1, zgY (fun i hi=>(h2 i (by omega)).symm)]; simp
  ·rw [ih (by omega), h2 m (fun e2=>e e2.symm)]; omega
theorem zjO {m k:Nat} {L:Nat -> Bool} (hk:k <= m) (h:∀ i, i < m -> L i = decide (i < k)):unl m L = m - k:=by
 induction m with
 | zero=>simp [unl]
 | succ m ih=>
  rw [zaJ]
  by_cases e:k = m + 1
  ·subst e
   rw [h m (by omega)]
   have:unl m L = unl m (fun _=>true):=zgY fun i hi=>by rw [h i (by omega)]; simp; omega
   rw [this]
   simp [unl]
  ·rw [ih (by omega) (fun i hi=>h i (by omega)), h m (by omega)]
   have:¬ m < k:=by omega
   simp [this]; omega
theorem znC {m:Nat} {L:Nat -> Bool} (h:unl m L = 0):∀ i, i < m -> L i = true:=by
 induction m with
 | zero=>intro i hi; omega
 | succ m ih=>
  rw [zaJ] at h
  intro i hi
  by_cases e:i = m
  ·subst e; cases hL:L i <;> simp [hL] at h ⊢
  ·exact ih (by omega) i (by omega)
theorem zjn (f t:Nat) (listed:Array Bool):(Region.ready .any ops listed = [] /\ Region.linearise.go .any ops (f + 1) t listed [] = []) ∨
  ∃ i t', i ∈ Region.ready .any ops listed /\ Region.linearise.go .any ops (f + 1) t listed [] = i :: Region.linearise.go .any ops f t' (listed.setIfInBounds i true) []:=by
 simp only[Region.linearise.go]
 change (_ /\ (match (Region.ready .any ops listed)[t % (Region.ready .any ops listed).length]? with
   | some i=>Region.linearise.go .any ops f (t / (Region.ready .any ops listed).length) (listed.setIfInBounds i true) [i]
   | none=>[].reverse) = []) ∨ ∃ i t', _ /\ (match (Region.ready .any ops listed)[t % (Region.ready .any ops listed).length]? with
   | some i=>Region.linearise.go .any ops f (t / (Region.ready .any ops listed).length) (listed.setIfInBounds i true) [i]
   | none=>[].reverse) = i :: Region.linearise.go .any ops f t' (listed.setIfInBounds i true) []
 cases hi:(Region.ready .any ops listed)[t % (Region.ready .any ops listed).length]? with
 | none=>
  have hnil:Region.ready .any ops listed = []:=by
   cases hr:Region.ready .any ops listed with
   | nil=>rfl
   | cons x xs=>
    rw [hr] at hi
    have hlt:t % (x :: xs).length < (x :: xs).length:=Nat.mod_lt _ (by simp)
    simp at hi
    simp at hlt
    omega
  exact .inl ⟨hnil, rfl⟩
 | some i=>
  refine .inr ⟨i, t / (Region.ready .any ops listed).length, List.mem_of_getElem? hi, ?_⟩
  simp only[]
  rw [linearise_go_acc, List.reverse_singleton, List.singleton_append]
theorem zgL {l:Array Bool} {i:Nat} (h:i < l.size) (b:Bool):l.getD i b = l.getD i false:=by simp [Array.getD, h]
theorem zfG {listed:Array Bool} (hs:listed.size = ops.size) {j:Nat} (h:j ∈ Region.ready .any ops listed):∃ o, ops[j]? = some o /\ listed.getD j false = false /\ ∀ e ∈ o.after.toList, Region.binds .any e = true -> listed.getD e.on false = true:=by
 obtain ⟨h1, o, h2, h3⟩:=mem_ready.1 h
 exact ⟨o, h2, by rw [zgL (by rw [hs]; exact wK h2)] at h1; exact h1, fun e he hb=>h3 e (by simpa using he) hb⟩
theorem ready_nil {listed:Array Bool} (hu:upB ops = true) (hs:listed.size = ops.size) (h:Region.ready .any ops listed = []):∀ i, i < ops.size -> listed.getD i false = true:=by
 intro i
 induction i using Nat.strongRecOn with
 | _ i ih=>
  intro hi
  cases hl:listed.getD i false with
  | true=>rfl
  | false=>
   have:i ∈ Region.ready .any ops listed:=mem_ready.2 ⟨by rw [zgL (by omega)]; exact hl, ops[i], by simp [hi], fun e he hb=>by
    have h1:=zgk hu (j:=i) (o:=ops[i]) (by simp [hi]) e (by simpa using he) hb
    exact ih _ h1 (by omega)⟩
   rw [h] at this; cases this
theorem za6 {listed:Array Bool} {j:Nat} (hj:j < listed.size) (i:Nat):(listed.setIfInBounds j true).getD i false = (listed.getD i false || decide (i = j)):=by
 simp only[Array.getD_eq_getD_getElem?, Array.getElem?_setIfInBounds]
 by_cases e:j = i
 ·subst e; simp [hj]
 ·have:¬ i = j:=fun h=>e h.symm
  simp [e, this]
end
end
end Go.Bv
end
section
namespace Go.Bv
open Go.RowKit
noncomputable section
def mini (fr:Fr):List Tmp -> Fr
 | []=>Oc.all .top
 | t :: l=>match fr.get t with | some x=>(mini fr l).set t x | none=>mini fr l
theorem zfU {fr:Fr}:∀ {l:List Tmp} {t:Tmp} {x:VV}, (mini fr l).get t = some x -> x = .top ∨ (t ∈ l /\ fr.get t = some x)
 | [], t, x, h=>.inl (Oc.all_get _ _ _ h)
 | u :: l, t, x, h=>by
  rw [mini] at h
  cases hu:fr.get u with
  | none=>rw [hu] at h; exact (zfU h).imp id fun h1=>⟨List.mem_cons_of_mem _ h1.1, h1.2⟩
  | some y=>
   rw [hu] at h
   have hlt:u < 512:=by
    rcases Nat.lt_or_ge u 512 with h1 | h1
    ·exact h1
    ·rw [Oc.get_big _ _ (by omega)] at hu; cases hu
   have h2:=Oc.get_set _ _ _ _ _ hlt h
   by_cases e:t = u
   ·rw [if_pos e] at h2
    subst h2; subst e
    exact .inr ⟨by simp, hu⟩
   ·rw [if_neg e] at h2
    exact (zfU h2).imp id fun h1=>⟨List.mem_cons_of_mem _ h1.1, h1.2⟩
def zdX (ops:Array Oper) (k:Nat) (listed:Array Bool):Prop:=listed.size = ops.size /\ ∀ i, i < ops.size -> listed.getD i false = decide (i < k)
def TSO (P:Program) (lim:Nat) (ops:Array Oper) (k:Nat) (s:St) (e:XE) (s':St):Prop:=s.nx <= s'.nx /\ ∀ t listed, zdX ops k listed -> TS P lim [.inRegion ops (Region.linearise.go .any ops (ops.size - k) t listed [])] s e s'
def zca (M:Mem):List Nat -> Mem
 | []=>.lf
 | l :: V=>match M.get l with
  | some o=>(zca M V).set l (some o)
  | none=>zca M V
theorem zgK (M:Mem):∀ {V:List Nat}, (∀ x ∈ V, x < 16777215) -> ∀ l, (zca M V).get l = if l ∈ V then M.get l else none
 | [], _, l=>by simp [zca, Tr.get_lf]
 | x :: V, h, l=>by
  have ih:=zgK M (V:=V) (fun y hy=>h y (List.mem_cons_of_mem _ hy)) l
  unfold zca
  cases hx:M.get x with
  | none=>
   simp only
   rw [ih]
   by_cases e:l = x
   ·subst e; simp [hx]
   ·simp [e]
  | some o=>
   simp only
   rw [Tr.get_set _ _ _ _ (h x (by simp)), ih]
   by_cases e:l = x
   ·subst e; simp [hx]
   ·simp [e]
def kJ (M M2:Mem):List Nat -> Mem
 | []=>M
 | l :: V=>match M2.get l with
  | some o=>(kJ M M2 V).set l (some o)
  | none=>(kJ M M2 V).set l none
theorem zcx (M M2:Mem):∀ {V:List Nat}, (∀ x ∈ V, x < 16777215) -> ∀ l, (kJ M M2 V).get l = if l ∈ V then M2.get l else M.get l
 | [], _, l=>by simp [kJ]
 | x :: V, h, l=>by
  have ih:=zcx M M2 (V:=V) (fun y hy=>h y (List.mem_cons_of_mem _ hy)) l
  have e0:kJ M M2 (x :: V) = (kJ M M2 V).set x (M2.get x):=by
   show (match M2.get x with | some o=>(kJ M M2 V).set x (some o) | none=>(kJ M M2 V).set x none) = _
   cases M2.get x <;> rfl
  rw [e0, Tr.get_set _ _ _ _ (h x (by simp)), ih]
  by_cases e:l = x
  ·subst e; simp
  ·simp [e]
def kX (lo:Nat):Nat -> List Nat
 | 0=>[]
 | d + 1=>lo :: kX (lo + 1) d
theorem wY {x:Nat}:∀ {d lo:Nat}, x ∈ kX lo d ↔ lo <= x /\ x < lo + d
 | 0, lo=>by simp only[kX, List.not_mem_nil, false_iff]; omega
 | d + 1, lo=>by
  simp only[kX, List.mem_cons, wY]; omega
section
variable {P:Program} {lim:Nat} {ops:Array Oper} {s s1 s':St} {e:XE}
theorem zeC (hu:upB ops = true) {k:Nat} {listed:Array Bool} (hl:zdX ops k listed):zcL ops (fun i=>listed.getD i false):=fun j o ho hL e he hb=>by
 have h1:=zgk hu ho e he hb
 have hlt:=wK ho
 have h2:=hl.2 j hlt
 simp only[show listed.getD j false = true from hL] at h2
 have h3:j < k:=of_decide_eq_true h2.symm
 show listed.getD e.on false = true
 rw [hl.2 _ (by omega)]
 simp; omega
theorem zpW {k:Nat} (hk:ops.size <= k):TSO P lim ops k s .normal s:=⟨Nat.le_refl _, fun t listed _=>by
 rw [show ops.size - k = 0 from by omega]
 exact TS.opEnd⟩
theorem zi4 (hu:upB ops = true) {k:Nat} (hk:k < ops.size) (hc:zh6 ops k = true) {listed:Array Bool} (hl:zdX ops k listed) (t:Nat):∃ t', Region.linearise.go .any ops (ops.size - k) t listed [] = k :: Region.linearise.go .any ops (ops.size - (k + 1)) t' (listed.setIfInBounds k true) [] /\ zdX ops (k + 1) (listed.setIfInBounds k true):=by
 have hx:zdX ops (k + 1) (listed.setIfInBounds k true):=⟨by simp [hl.1], fun i hi=>by
  rw [za6 (by rw [hl.1]; exact hk), hl.2 i hi]
  by_cases h1:i < k
  ·simp [h1]; omega
  ·by_cases h2:i = k
   ·simp [h2]
   ·simp [h1, h2]; omega⟩
 rw [show ops.size - k = (ops.size - (k + 1)) + 1 from by omega]
 rcases zjn (ops:=ops) (ops.size - (k + 1)) t listed with ⟨h1, _⟩ | ⟨i, t', h1, h2⟩
 ·have:=ready_nil hu hl.1 h1 k hk
  rw [hl.2 k hk] at this
  simp at this
 ·obtain ⟨o, h3, h4, h5⟩:=zfG hl.1 h1
  have hlt:=wK h3
  have hik:i = k:=by
   rw [hl.2 i hlt] at h4
   have h6:¬ i < k:=of_decide_eq_false h4
   rcases Nat.lt_or_ge k i with h7 | h7
   ·have h8:=(zhm hc).2 i h7 hlt
    have h9:=vT (L:=fun i=>listed.getD i false) (zeC hu hl) i o h3 h5 k h8
    simp only[hl.2 k hk] at h9
    simp at h9
   ·omega
  subst hik
  exact ⟨t', h2, hx⟩
theorem zqn {k:Nat} {o:Oper} {v:VV} (hu:upB ops = true) (hc:zh6 ops k = true) (ho:ops[k]? = some o) (hw:xe ops s.fr o = some true) (hd:xM s1.n o.dst = true) (h:OpT P lim o s (.val v) s1)
  (h2:TSO P lim ops (k + 1) { s1 with fr:=zdf s1.fr o.dst v } e s'):TSO P lim ops k s e s':=⟨Nat.le_trans h.1 h2.1, fun t listed hl=>by
 obtain ⟨t', h3, h4⟩:=zi4 hu (wK ho) hc hl t
 rw [h3]
 exact TS.opVal ho hw hd h (h2.2 t' _ h4)⟩
theorem zqY {k:Nat} {o:Oper} {v:VV} (hu:upB ops = true) (hc:zh6 ops k = true) (ho:ops[k]? = some o) (hw:xe ops s.fr o = some true) (h:OpT P lim o s (.pan v) s1):TSO P lim ops k s (.pan v) s1:=⟨h.1, fun t listed hl=>by
 obtain ⟨t', h3, h4⟩:=zi4 hu (wK ho) hc hl t
 rw [h3]
 exact TS.opPan ho hw h⟩
theorem zkv {id:Nat} (hm:P.follows .mixedOrders = true) (h:TSO P lim ops 0 s e s'):TS P lim [.code (.region id ops true)] s e s':=by
 refine ⟨h.1, fun B n ρ w a b k cs0 cs hl hf hs=>?_⟩
 have hb:Below w.heap.size w w.drew:=(Below.refl _ _).drew
 obtain ⟨ρ1, g1, m1, rfl⟩:Post lim B s.nx s.nx ρ s.M s.M w { w with drawn:=w.drawn + 1 } (fun ρ'=>ρ' = ρ):=xP hs.mem hs.fin hb hs.base rfl
 obtain ⟨a', w', cs', ρ', h3, h4, h5⟩:=(h.2 (w.tape w.drawn (.order b.fn id)) (Array.replicate ops.size false) ⟨by simp, fun i hi=>by simp [Array.getD, hi]⟩).2 B n ρ1 { w with drawn:=w.drawn + 1 } a b k cs0 cs hl hf ⟨hs.base, hs.fin, m1, hs.fr, hs.dfs, hs.up, hs.rnd, hs.nn, hs.fid⟩
 refine ⟨a', w', cs', ρ', g1.trans h3, h4, .of_steps (.one ?_) h5⟩
 have:=stepR_region_draw (P:=P) (b:=b) (a:=a) (k:=k) (cs:=cs) (w:=w) (ops:=ops) (id:=id)
 refine Eq.trans this ?_
 simp only[Region.schedule, hm, Bool.true_or, if_true]
 rfl
def wrB (vw:Nat -> List Nat) (ch:Nat -> Bool) (nf:Nat -> Nat) (j x:Nat):Prop:=(ch j = true /\ x ∈ vw j) ∨ (nf j <= x /\ x < nf (j + 1))
def StepF (P:Program) (lim:Nat) (ops:Array Oper) (s:St) (k:Nat) (vf:Nat -> VV) (ff:Nat -> Fr) (Mf:Nat -> Mem) (nf:Nat -> Nat) (vw:Nat -> List Nat) (ch:Nat -> Bool) (j:Nat):Prop:=∃ o l, ops[j]? = some o /\ (zfH ops j l = true /\ l = o.looksAt ops) /\ xM s.n o.dst = true /\ ff (j + 1) = zdf (ff j) o.dst (vf j) /\
  (nf j <= nf (j + 1) /\ (nf j < nf (j + 1) -> nf (j + 1) < 16777215)) /\ (∀ x ∈ vw j, x < nf j /\ x < 16777215) /\ (0 < nf j /\ (ch j = true -> 0 ∉ vw j /\ 1 <= lim)) /\
  (∀ i, k <= i -> i < j -> (maskAt ops j).testBit i = false -> (∀ x ∈ vw j, ¬ wrB vw ch nf i x) /\ (ch j = true -> ∀ x ∈ vw j, x ∉ vw i)) /\
  (∀ x, ¬ wrB vw ch nf j x -> (Mf (j + 1)).get x = (Mf j).get x) /\
  ((xe ops (mini (ff j) l) o = some false /\ vf j = .tup [] /\ nf (j + 1) = nf j /\ ch j = false) ∨
   (xe ops (mini (ff j) l) o = some true /\ ∃ Mv M'':Mem, ((∀ x o', Mv.get x = some o' -> (x ∈ vw j ∨ x = 0) /\ (Mf j).get x = some o') /\ (ch j = true -> ∀ x ∈ vw j, Mv.get x = (Mf j).get x)) /\
    OpT P (bif ch j then lim else nf j) o { s with fr:=mini (ff j) l, M:=Mv, nx:=nf j } (.val (vf j)) { s with fr:=mini (ff j) l, M:=M'', nx:=nf (j + 1) } /\
    (∀ x o', wrB vw ch nf j x -> (Mf (j + 1)).get x = some o' -> M''.get x = some o') /\ (ch j = true -> ∀ x ∈ vw j, (Mf (j + 1)).get x = M''.get x) /\ (ch j = true -> ∀ x ∈ vw j, ∀ o', Mv.get x = some o' -> o'.still = false)))
section
variable {k r m:Nat} {vf:Nat -> VV} {ff:Nat -> Fr} {Mf:Nat -> Mem} {nf:Nat -> Nat} {vw:Nat -> List Nat} {ch:Nat -> Bool}
theorem zh5 (hst:∀ j, k <= j -> j < k + r -> StepF P lim ops s k vf ff Mf nf vw ch j) (a:Nat) (ha:k <= a):∀ d, a + d <= k + r -> nf a <= nf (a + d)
 | 0, _=>Nat.le_refl _
 | d + 1, hd=>Nat.le_trans (zh5 hst a ha d (by omega)) (by obtain ⟨_, _, _, _, _, _, h, _⟩:=hst (a + d) (by omega) (by omega); exact h.1)
theorem zdL (hst:∀ j, k <= j -> j < k + r -> StepF P lim ops s k vf ff Mf nf vw ch j) {a b:Nat} (ha:k <= a) (hab:a <= b) (hb:b <= k + r):nf a <= nf b:=by
 have:=zh5 hst a ha (b - a) (by omega)
 rwa [show a + (b - a) = b from by omega] at this
open Classical in
def zcY (k:Nat) (Mf:Nat -> Mem) (nf:Nat -> Nat) (vw:Nat -> List Nat) (ch:Nat -> Bool) (L:Nat -> Bool):Nat -> Nat -> Option VO
 | 0, x=>(Mf k).get x
 | d + 1, x=>if L (k + d) = true /\ wrB vw ch nf (k + d) x then (Mf (k + d + 1)).get x else zcY k Mf nf vw ch L d x
theorem zft {L L':Nat -> Bool} {x:Nat}:∀ d, (∀ d', d' < d -> wrB vw ch nf (k + d') x -> L (k + d') = L' (k + d')) -> zcY k Mf nf vw ch L d x = zcY k Mf nf vw ch L' d x
 | 0, _=>rfl
 | d + 1, h=>by
  have ih:=zft d fun d' hd=>h d' (by omega)
  unfold zcY
  by_cases hw:wrB vw ch nf (k + d) x
  ·rw [h d (by omega) hw, ih]
  ·rw [if_neg (fun c=>hw c.2), if_neg (fun c=>hw c.2), ih]
theorem zaT {L:Nat -> Bool} {x d:Nat}:∀ e, (∀ d', d <= d' -> d' < d + e -> wrB vw ch nf (k + d') x -> L (k + d') = false) -> zcY k Mf nf vw ch L (d + e) x = zcY k Mf nf vw ch L d x
 | 0, _=>rfl
 | e + 1, h=>by
  rw [← zaT e fun d' h1 h2=>h d' h1 (by omega)]
  show zcY k Mf nf vw ch L (d + e + 1) x = _
  rw [zcY, if_neg (fun c=>by rw [h (d + e) (by omega) (by omega) c.2] at c; cases c.1)]
theorem zdi (hst:∀ j, k <= j -> j < k + r -> StepF P lim ops s k vf ff Mf nf vw ch j) {L:Nat -> Bool} {x:Nat}:∀ d, d <= r -> (∀ d', d' < d -> wrB vw ch nf (k + d') x -> L (k + d') = true) -> zcY k Mf nf vw ch L d x = (Mf (k + d)).get x
 | 0, _, _=>rfl
 | d + 1, hd, h=>by
  have ih:=zdi hst d (by omega) fun d' hd'=>h d' (by omega)
  unfold zcY
  by_cases hw:wrB vw ch nf (k + d) x
  ·rw [if_pos ⟨h d (by omega) hw, hw⟩]; rfl
  ·rw [if_neg (fun c=>hw c.2), ih]
   obtain ⟨_, _, _, _, _, _, _, _, _, _, hk, _⟩:=hst (k + d) (by omega) (by omega)
   exact (hk x hw).symm
theorem zpd (hst:∀ j, k <= j -> j < k + r -> StepF P lim ops s k vf ff Mf nf vw ch j):∀ j, k <= j -> j <= k + r -> ∀ t x, (ff j).get t = some x -> (∃ w o, k <= w /\ w < j /\ ops[w]? = some o /\ o.dst = some t /\ x = vf w) ∨ ((∀ w o, k <= w -> w < j -> ops[w]? = some o -> o.dst ≠ some t) /\ (ff k).get t = some x):=by
 intro j
 induction j with
 | zero=>
  intro hk hj t x h
  have:k = 0:=by omega
  subst this
  exact .inr ⟨fun w o h1 h2=>by omega, h⟩
 | succ j ih=>
  intro hk hj t x h
  by_cases e:k = j + 1
  ·subst e
   exact .inr ⟨fun w o h1 h2=>by omega, h⟩
  ·have hkj:k <= j:=by omega
   have hjr:j < k + r:=by omega
   obtain ⟨o, l, ho, _, hd, hf, _⟩:=hst j hkj hjr
   rw [hf] at h
   have ih:=ih hkj (by omega)
   clear hst hk hj
   cases hdst:o.dst with
   | none=>
    rw [hdst] at h
    rcases ih t x h with ⟨w, o', h1, h2, h3⟩ | ⟨h1, h2⟩
    ·exact .inl ⟨w, o', h1, by omega, h3⟩
    ·refine .inr ⟨fun w o' a b c=>?_, h2⟩
     by_cases e2:w = j
     ·subst e2; rw [ho] at c; injection c with c; subst c; rw [hdst]; simp
     ·exact h1 w o' a (by omega) c
   | some d=>
    rw [hdst] at h hd
    simp only[zdf] at h
    simp only[xM, zLa] at hd
    have h2:=Oc.get_set _ _ _ _ _ (qo.1 hd.2) h
    by_cases e2:t = d
    ·rw [if_pos e2] at h2
     exact .inl ⟨j, o, hkj, Nat.lt_succ_self j, ho, by rw [hdst, e2], h2⟩
    ·rw [if_neg e2] at h2
     rcases ih t x h2 with ⟨w, o', h1, h2, h3⟩ | ⟨h1, h2⟩
     ·exact .inl ⟨w, o', h1, by omega, h3⟩
     ·refine .inr ⟨fun w o' a b c=>?_, h2⟩
      by_cases e3:w = j
      ·subst e3; rw [ho] at c; injection c with c; subst c; rw [hdst]; intro e4; injection e4 with e4; exact e2 e4.symm
      ·exact h1 w o' a (by omega) c
structure InvM (P:Program) (lim:Nat) (s:St) (k r:Nat) (Mf:Nat -> Mem) (nf:Nat -> Nat) (vw:Nat -> List Nat) (ch:Nat -> Bool) (B:Nat) (ρ0:Rho) (w0:World) (L:Nat -> Bool) (Mc:Mem) (ρ:Rho) (w:World):Prop where
 get:∀ x, Mc.get x = zcY k Mf nf vw ch L r x
 fresh:∀ i x, k <= i -> i < k + r -> L i = false -> nf i <= x -> x < nf (i + 1) -> ρ x = none
 goes:Goes lim B s.nx (nf (k + r)) ρ0 ρ s.M Mc w0 w
 base:B <= w.heap.size
 mem:MRel B ρ Mc w
structure InvQ (P:Program) (lim:Nat) (ops:Array Oper) (s:St) (k r:Nat) (vf:Nat -> VV) (Mf:Nat -> Mem) (nf:Nat -> Nat) (vw:Nat -> List Nat) (ch:Nat -> Bool) (B n:Nat) (ρ0:Rho) (w0:World) (b:Frame) (cs0:List Frame)
  (L:Nat -> Bool) (Mc:Mem) (ρ:Rho) (a:Act) (w:World) (cs:List Frame):Prop where
 down:zcL ops L
 old:∀ i, i < k -> L i = true
 beh:∀ i, k + r <= i -> L i = false
 m:InvM P lim s k r Mf nf vw ch B ρ0 w0 L Mc ρ w
 size:a.tmps.size = n
 done:∀ i o d, k <= i -> i < k + r -> L i = true -> ops[i]? = some o -> o.dst = some d -> VRel ρ (vf i) (a.tmps.getD d undef)
 rest:∀ t x, (∀ i o, k <= i -> i < k + r -> L i = true -> ops[i]? = some o -> o.dst ≠ some t) -> s.fr.get t = some x -> VRel ρ x (a.tmps.getD t undef)
 dfs:DRelL ρ s.dfs a.defers
 up:UR ρ s.up b cs0 cs
 rnd:b.roundOf.isSome = s.rnd
 nn:s.n = n
 fid:b.fn = s.fid
end
end
end
end Go.Bv
end
section
namespace Go.Bv
open Go.RowKit
noncomputable section
theorem Goes.congrR {lim B nx nx':Nat} {ρ ρ':Rho} {M M' M2:Mem} {w w':World} (h:Goes lim B nx nx' ρ ρ' M M' w w') (he:∀ l, M'.get l = M2.get l):Goes lim B nx nx' ρ ρ' M M2 w w':=
 ⟨h.ext, h.le, h.below, h.unch, fun l hl=>by rw [← he]; exact h.old l hl, fun l h1 h2=>by rw [← he]; exact h.dead l h1 h2, fun l b o h1 h2 h3=>h.new l b o h1 (by rw [he]; exact h2) h3, fun hf l hl=>by rw [← he]; exact h.fin hf l hl⟩
theorem MRel.congr {B:Nat} {ρ:Rho} {M M2:Mem} {w:World} (h:MRel B ρ M w) (he:∀ l, M.get l = M2.get l):MRel B ρ M2 w:=
 ⟨fun l o hl=>h.obj l o (by rw [he]; exact hl), fun l l' o o' b b' h1 h2=>h.dist l l' o o' b b' (by rw [he]; exact h1) (by rw [he]; exact h2)⟩
def zbh (L:Nat -> Bool) (j:Nat):Nat -> Bool:=fun i=>L i || decide (i = j)
theorem kC {L:Nat -> Bool} {j i:Nat}:zbh L j i = true ↔ L i = true ∨ i = j:=by simp [zbh]
theorem zdI {L:Nat -> Bool} {j i:Nat} (h:i ≠ j):zbh L j i = L i:=by simp [zbh, h]
section
variable {P:Program} {lim:Nat} {ops:Array Oper} {s s1 s':St} {e:XE}
variable {k r:Nat} {vf:Nat -> VV} {ff:Nat -> Fr} {Mf:Nat -> Mem} {nf:Nat -> Nat} {vw:Nat -> List Nat} {ch:Nat -> Bool}
variable {B:Nat} {ρ0:Rho} {w0:World} {L:Nat -> Bool} {Mc:Mem} {ρ:Rho} {w:World}
theorem zic (hst:∀ j, k <= j -> j < k + r -> StepF P lim ops s k vf ff Mf nf vw ch j) (hdown:zcL ops L) {j:Nat} {o:Oper} (hk:k <= j) (hj:j < k + r) (ho:ops[j]? = some o) (hL:L j = false) (hanc:∀ e ∈ o.after.toList, Region.binds .any e = true -> L e.on = true)
  {x i:Nat} (hx:x ∈ vw j) (hi:k <= i) (hir:i < k + r) (hw:wrB vw ch nf i x):(i < j -> L i = true) /\ (j <= i -> L i = false):=by
 obtain ⟨_, _, hoj, _, _, _, _, hvj, _, hcj, _⟩:=hst j hk hj
 refine ⟨fun hlt=>?_, fun hle=>?_⟩
 ·cases hb:(maskAt ops j).testBit i with
  | true=>exact vT hdown j o ho hanc i hb
  | false=>exact absurd hw ((hcj i hi hlt hb).1 x hx)
 ·rcases Nat.lt_or_ge j i with hlt | hge
  ·obtain ⟨oi, _, hoi, _, _, _, _, hvi, _, hci, _⟩:=hst i hi hir
   have hb:(maskAt ops i).testBit j = true:=by
    cases hb:(maskAt ops i).testBit j with
    | true=>rfl
    | false=>
     rcases hw with ⟨c1, c2⟩ | ⟨c1, c2⟩
     ·exact absurd hx ((hci j hk hlt hb).2 c1 x c2)
     ·have h1:=(hvj x hx).1
      have h2:=zdL hst hk (Nat.le_of_lt hlt) (by omega)
      omega
   cases hLi:L i with
   | false=>rfl
   | true=>
    have:=vT hdown i oi hoi (hdown i oi hoi hLi) j hb
    rw [hL] at this; cases this
  ·have:i = j:=by omega
   subst this; exact hL
theorem InvM.finds (h:InvM P lim s k r Mf nf vw ch B ρ0 w0 L Mc ρ w) (hst:∀ j, k <= j -> j < k + r -> StepF P lim ops s k vf ff Mf nf vw ch j) (hdown:zcL ops L) {j:Nat} {o:Oper} (hk:k <= j) (hj:j < k + r) (ho:ops[j]? = some o) (hL:L j = false)
  (hanc:∀ e ∈ o.after.toList, Region.binds .any e = true -> L e.on = true) {x:Nat} (hx:x ∈ vw j):Mc.get x = (Mf j).get x:=by
 rw [h.get x]
 obtain ⟨d, rfl⟩:∃ d, j = k + d:=⟨j - k, by omega⟩
 rw [show r = d + (r - d) from by omega, zaT (r - d) fun d' h1 h2 hw=>(zic hst hdown hk hj ho hL hanc hx (by omega) (by omega) hw).2 (by omega)]
 exact zdi hst d (by omega) fun d' hd' hw=>(zic hst hdown hk hj ho hL hanc hx (by omega) (by omega) hw).1 (by omega)
theorem InvM.finds0 (h:InvM P lim s k r Mf nf vw ch B ρ0 w0 L Mc ρ w) (hst:∀ j, k <= j -> j < k + r -> StepF P lim ops s k vf ff Mf nf vw ch j) {j:Nat} (hk:k <= j) (hj:j < k + r):Mc.get 0 = (Mf j).get 0:=by
 have hno:∀ i, k <= i -> i < k + r -> ¬ wrB vw ch nf i 0:=fun i h1 h2 hw=>by
  obtain ⟨_, _, _, _, _, _, _, _, ⟨c1, c2⟩, _⟩:=hst i h1 h2
  rcases hw with ⟨c3, c4⟩ | c3
  ·exact (c2 c3).1 c4
  ·omega
 rw [h.get 0]
 obtain ⟨d, rfl⟩:∃ d, j = k + d:=⟨j - k, by omega⟩
 rw [show r = d + (r - d) from by omega, zaT (r - d) fun d' h1 h2 hw=>absurd hw (hno (k + d') (by omega) (by omega))]
 exact zdi hst d (by omega) fun d' hd' hw=>absurd hw (hno (k + d') (by omega) (by omega))
theorem zhr (hst:∀ j, k <= j -> j < k + r -> StepF P lim ops s k vf ff Mf nf vw ch j) (hdown:zcL ops L) {j:Nat} {o:Oper} (hk:k <= j) (hj:j < k + r) (ho:ops[j]? = some o) (hL:L j = false) (hanc:∀ e ∈ o.after.toList, Region.binds .any e = true -> L e.on = true) (x:Nat):
  (wrB vw ch nf j x -> zcY k Mf nf vw ch (zbh L j) r x = (Mf (j + 1)).get x) /\ (¬ wrB vw ch nf j x -> zcY k Mf nf vw ch (zbh L j) r x = zcY k Mf nf vw ch L r x):=by
 obtain ⟨d, rfl⟩:∃ d, j = k + d:=⟨j - k, by omega⟩
 refine ⟨fun hw=>?_, fun hw=>?_⟩
 ·have hlate:∀ i, k + d < i -> i < k + r -> wrB vw ch nf i x -> zbh L (k + d) i = false:=fun i h1 h2 hwi=>by
   rw [zdI (by omega)]
   rcases hw with ⟨_, c2⟩ | ⟨c1, c2⟩
   ·exact (zic hst hdown hk hj ho hL hanc c2 (by omega) h2 hwi).2 (by omega)
   ·obtain ⟨oi, _, hoi, _, _, _, _, hvi, _, hci, _⟩:=hst i (by omega) h2
    have hb:(maskAt ops i).testBit (k + d) = true:=by
     cases hb:(maskAt ops i).testBit (k + d) with
     | true=>rfl
     | false=>
      rcases hwi with ⟨_, c4⟩ | ⟨c3, c4⟩
      ·exact absurd (.inr ⟨c1, c2⟩) ((hci (k + d) hk h1 hb).1 x c4)
      ·have h3:=zdL hst (a:=k + d + 1) (b:=i) (by omega) (by omega) (by omega)
       omega
    cases hLi:L i with
    | false=>rfl
    | true=>
     have:=vT hdown i oi hoi (hdown i oi hoi hLi) (k + d) hb
     rw [hL] at this; cases this
  rw [show r = d + 1 + (r - (d + 1)) from by omega, zaT (r - (d + 1)) fun d' h1 h2 hwi=>hlate (k + d') (by omega) (by omega) hwi]
  unfold zcY
  rw [if_pos ⟨kC.2 (.inr rfl), hw⟩]
 ·refine zft r fun d' hd' hwi=>zdI fun e=>?_
  rw [e] at hwi
  exact hw hwi
theorem InvM.idle (h:InvM P lim s k r Mf nf vw ch B ρ0 w0 L Mc ρ w) (hst:∀ j, k <= j -> j < k + r -> StepF P lim ops s k vf ff Mf nf vw ch j) (hdown:zcL ops L) {j:Nat} {o:Oper} (hk:k <= j) (hj:j < k + r) (ho:ops[j]? = some o) (hL:L j = false)
  (hanc:∀ e ∈ o.after.toList, Region.binds .any e = true -> L e.on = true) (hn:nf (j + 1) = nf j) (hc:ch j = false):InvM P lim s k r Mf nf vw ch B ρ0 w0 (zbh L j) Mc ρ w:=by
 refine ⟨fun x=>?_, fun i x h1 h2 h3=>?_, h.goes, h.base, h.mem⟩
 ·rw [h.get x]
  refine ((zhr hst hdown hk hj ho hL hanc x).2 fun hw=>?_).symm
  rcases hw with ⟨c, _⟩ | ⟨c1, c2⟩
  ·rw [hc] at c; cases c
  ·omega
 ·rcases Nat.lt_or_ge i j with c | c
  ·exact h.fresh i x h1 h2 (by rw [zdI (by omega)] at h3; exact h3)
  ·rcases Nat.lt_or_ge j i with c2 | c2
   ·exact h.fresh i x h1 h2 (by rw [zdI (by omega)] at h3; exact h3)
   ·have:i = j:=by omega
    subst this
    rw [kC.2 (.inr rfl)] at h3; cases h3
theorem InvM.step (h:InvM P lim s k r Mf nf vw ch B ρ0 w0 L Mc ρ w) (hst:∀ j, k <= j -> j < k + r -> StepF P lim ops s k vf ff Mf nf vw ch j) (hdown:zcL ops L) (hlim:lim <= s.nx) (hnk:nf k = s.nx) {j:Nat} {o:Oper} (hk:k <= j) (hj:j < k + r) (ho:ops[j]? = some o) (hL:L j = false)
  (hanc:∀ e ∈ o.after.toList, Region.binds .any e = true -> L e.on = true) {Mv M'':Mem} {ρ':Rho} {w':World} (hMv:(∀ x o', Mv.get x = some o' -> (x ∈ vw j ∨ x = 0) /\ (Mf j).get x = some o') /\ (ch j = true -> ∀ x ∈ vw j, Mv.get x = (Mf j).get x))
  (hnew:∀ x o', wrB vw ch nf j x -> (Mf (j + 1)).get x = some o' -> M''.get x = some o') (hnV:ch j = true -> ∀ x ∈ vw j, (Mf (j + 1)).get x = M''.get x) (hns:ch j = true -> ∀ x ∈ vw j, ∀ o', Mv.get x = some o' -> o'.still = false)
  (g:Goes (bif ch j then lim else nf j) B (nf j) (nf (j + 1)) ρ ρ' Mv M'' w w') (hm':MRel B ρ' M'' w'):∃ Mc', InvM P lim s k r Mf nf vw ch B ρ0 w0 (zbh L j) Mc' ρ' w':=by
 obtain ⟨_, _, _, _, _, _, ⟨hn1, hn2⟩, hvj, ⟨h00, h0c⟩, hcj, hkeep, _⟩:=hst j hk hj
 have hnj:s.nx <= nf j:=by rw [← hnk]; exact zdL hst (Nat.le_refl k) hk (by omega)
 have hnr:nf (j + 1) <= nf (k + r):=zdL hst (by omega) (by omega) (Nat.le_refl _)
 have hfind:∀ x, x ∈ vw j -> Mc.get x = (Mf j).get x:=fun x hx=>h.finds hst hdown hk hj ho hL hanc hx
 have hstep:=fun x=>zhr hst hdown hk hj ho hL hanc x
 have hview:∀ x o', Mv.get x = some o' -> (x ∈ vw j ∨ x = 0) /\ Mc.get x = some o':=fun x o' hx=>by
  obtain ⟨c, hx⟩:=hMv.1 x o' hx
  refine ⟨c, ?_⟩
  rcases c with c | rfl
  ·rw [hfind x c]; exact hx
  ·rw [h.finds0 hst hk hj]; exact hx
 -- the memory behind it
 let V:=(bif ch j then vw j else []) ++ kX (nf j) (nf (j + 1) - nf j)
 have hVlt:∀ x ∈ V, x < 16777215:=fun x hx=>by
  rcases List.mem_append.1 hx with c | c
  ·cases hc:ch j with
   | true=>rw [hc] at c; exact (hvj x c).2
   | false=>rw [hc] at c; cases c
  ·have:=wY.1 c
   have:=hn2 (by omega)
   omega
 have hVw:∀ x, x ∈ V ↔ wrB vw ch nf j x:=fun x=>by
  unfold wrB
  simp only[V, List.mem_append, wY]
  cases ch j with
  | true=>
   simp only[cond_true, true_and]
   exact ⟨fun c=>c.imp id fun c=>⟨c.1, by omega⟩, fun c=>c.imp id fun c=>⟨c.1, by omega⟩⟩
  | false=>
   simp only[cond_false, List.not_mem_nil, false_or, Bool.false_eq_true, false_and]
   exact ⟨fun c=>⟨c.1, by omega⟩, fun c=>⟨c.1, by omega⟩⟩
 have hget:∀ x, (kJ Mc (Mf (j + 1)) V).get x = if x ∈ V then (Mf (j + 1)).get x else Mc.get x:=zcx Mc (Mf (j + 1)) hVlt
 have hin:∀ x o', wrB vw ch nf j x -> (kJ Mc (Mf (j + 1)) V).get x = some o' -> M''.get x = some o':=fun x o' hw hx=>by
  rw [hget, if_pos ((hVw x).2 hw)] at hx
  exact hnew x o' hw hx
 have hout:∀ x, ¬ wrB vw ch nf j x -> (kJ Mc (Mf (j + 1)) V).get x = Mc.get x:=fun x hw=>by
  rw [hget, if_neg (fun c=>hw ((hVw x).1 c))]
 have hfr:∀ x, ¬ (nf j <= x /\ x < nf (j + 1)) -> ρ' x = ρ x:=fun x hx=>g.ext x (by omega)
 have hMnone:∀ x o', Mc.get x = some o' -> ¬ (nf j <= x /\ x < nf (j + 1)):=fun x o' hx hc=>by
  obtain ⟨b, hb, _⟩:=h.mem.obj x o' hx
  rw [h.fresh j x hk hj hL hc.1 hc.2] at hb; cases hb
 -- what was turned was there, and is nobody else's
 have hturn:∀ x o', ch j = true -> x ∈ vw j -> M''.get x = some o' -> ∃ o0, Mv.get x = some o0 /\ Mc.get x = some o0 /\ o0.still = false:=fun x o' hc hx hM=>by
  cases hv:Mv.get x with
  | none=>rw [g.dead x (hvj x hx).1 hv] at hM; cases hM
  | some o0=>exact ⟨o0, rfl, (hview x o0 hv).2, hns hc x hx o0 hv⟩
 have hblk:∀ x o1 b1, Mc.get x = some o1 -> ρ x = some b1 -> ¬ wrB vw ch nf j x -> ∀ l b o', (bif ch j then lim else nf j) <= l -> l < nf j -> Mv.get l = some o' -> ρ l = some b -> b.blk ≠ b1.blk:=fun x o1 b1 hx hb1 hw l b o' h1 h2 h3 h4 e=>by
  cases hc:ch j with
  | false=>rw [hc] at h1; simp only[cond_false] at h1; omega
  | true=>
   obtain ⟨hlv, hlm⟩:=hview l o' h3
   rcases hlv with hlv | rfl
   ·have:=h.mem.dist l x o' o1 b b1 hlm hx h4 hb1 e (by rw [hns hc l hlv o' h3]; rfl)
    subst this
    exact hw (.inl ⟨hc, hlv⟩)
   ·rw [hc] at h1
    have:=(h0c hc).2
    simp only[cond_true] at h1
    omega
 have hun:∀ x o1 b1, Mc.get x = some o1 -> ρ x = some b1 -> ¬ wrB vw ch nf j x -> w'.heap[b1.blk]? = w.heap[b1.blk]?:=fun x o1 b1 hx hb1 hw=>by
  obtain ⟨b2, e2, _, ho2⟩:=h.mem.obj x o1 hx
  rw [hb1] at e2; injection e2 with e2; subst e2
  exact g.unch b1.blk ho2.lt fun l b o' h1 h2 h3 h4=>hblk x o1 b1 hx hb1 hw l b o' h1 h2 h3 h4
 have hx:zak ρ ρ':=fun l b hb=>by
  by_cases c:nf j <= l /\ l < nf (j + 1)
  ·rw [h.fresh j l hk hj hL c.1 c.2] at hb; cases hb
  ·rw [hfr l c]; exact hb
 -- a turned or made object's block, among those that stay
 have hmix:∀ x o1 b1 y o2 b2, wrB vw ch nf j x -> M''.get x = some o1 -> ρ' x = some b1 -> ¬ wrB vw ch nf j y -> Mc.get y = some o2 -> ρ y = some b2 -> b1.blk ≠ b2.blk:=fun x o1 b1 y o2 b2 hw hM hb1 hny hMy hb2 e=>by
  obtain ⟨b3, e3, _, ho3⟩:=h.mem.obj y o2 hMy
  rw [hb2] at e3; injection e3 with e3; subst e3
  rcases hw with ⟨hc, hxv⟩ | hr
  ·obtain ⟨o0, c1, c2, c3⟩:=hturn x o1 hc hxv hM
   rw [hfr x (by have:=(hvj x hxv).1; omega)] at hb1
   have:=h.mem.dist x y o0 o2 b1 b2 c2 hMy hb1 hb2 e (by rw [c3]; rfl)
   subst this
   exact hny (.inl ⟨hc, hxv⟩)
  ·rcases g.new x b1 o1 hr.1 hM hb1 with c | ⟨l0, b0, o0, c1, c2, c3, c4, c5⟩
   ·have:=ho3.lt; omega
   ·exact hblk y o2 b2 hMy hb2 hny l0 b0 o0 c1 c2 c3 c4 (by omega)
 refine ⟨kJ Mc (Mf (j + 1)) V, fun x=>?_, fun i x h1 h2 h3 h4 h5=>?_, ⟨fun l hl=>?_, h.goes.le, h.goes.below.trans (g.below), fun g' hg hno=>?_, fun l hl=>?_, fun l hl hn=>?_, fun l b o' h1 h2 h3=>?_, fun hf l hl=>?_⟩, Nat.le_trans h.base g.below.size, ⟨fun l o' hl=>?_, fun l l' o1 o2 b1 b2 hl hl' e1 e2 e3 hs=>?_⟩⟩
 ·by_cases hw:wrB vw ch nf j x
  ·rw [(hstep x).1 hw, hget, if_pos ((hVw x).2 hw)]
  ·rw [(hstep x).2 hw, hout x hw, h.get x]
 ·have hij:i ≠ j:=fun e=>by rw [e, kC.2 (.inr rfl)] at h3; cases h3
  rw [zdI hij] at h3
  have:¬ (nf j <= x /\ x < nf (j + 1)):=fun c=>by
   rcases Nat.lt_or_ge i j with c2 | c2
   ·have:=zdL hst (a:=i + 1) (b:=j) (by omega) (by omega) (by omega); omega
   ·have:=zdL hst (a:=j + 1) (b:=i) (by omega) (by omega) (by omega); omega
  rw [hfr x this]
  exact h.fresh i x h1 h2 h3 h4 h5
 ·rw [hfr l (by omega)]; exact h.goes.ext l hl
 ·have h1:=h.goes.unch g' hg hno
  have hgs:g' < w.heap.size:=Nat.lt_of_lt_of_le hg h.goes.below.size
  rw [← h1]
  refine g.unch g' hgs fun l b o' a1 a2 a3 a4 e=>?_
  obtain ⟨hlv, hlm⟩:=hview l o' a3
  have hll:lim <= l:=by
   cases hc:ch j with
   | true=>rw [hc] at a1; exact a1
   | false=>rw [hc] at a1; simp only[cond_false] at a1; omega
  rcases Nat.lt_or_ge l s.nx with c | c
  ·cases hs0:s.M.get l with
   | none=>rw [h.goes.dead l c hs0] at hlm; cases hlm
   | some o0=>exact hno l b o0 hll c hs0 (by rw [← h.goes.ext l (.inl c)]; exact a4) e
  ·rcases h.goes.new l b o' c hlm a4 with c2 | ⟨l0, b0, o0, c1, c2, c3, c4, c5⟩
   ·omega
   ·exact hno l0 b0 o0 c1 c2 c3 c4 (by omega)
 ·by_cases hw:wrB vw ch nf j l
  ·rcases hw with ⟨hc, hlv⟩ | hr
   ·rw [hget, if_pos ((hVw l).2 (.inl ⟨hc, hlv⟩))]
    have h1:=g.old l (by rw [hc]; exact hl)
    have h2:Mv.get l = Mc.get l:=by rw [hMv.2 hc l hlv, hfind l hlv]
    rw [h2, h.goes.old l hl] at h1
    rw [hnV hc l hlv]; exact h1
   ·omega
  ·rw [hout l hw]; exact h.goes.old l hl
 ·by_cases hw:wrB vw ch nf j l
  ·cases hM:(kJ Mc (Mf (j + 1)) V).get l with
   | none=>rfl
   | some o'=>
    have h1:=hin l o' hw hM
    rcases hw with ⟨hc, hlv⟩ | hr
    ·obtain ⟨o0, c1, c2, _⟩:=hturn l o' hc hlv h1
     rw [h.goes.dead l hl hn] at c2; cases c2
    ·omega
  ·rw [hout l hw]; exact h.goes.dead l hl hn
 ·by_cases hw:wrB vw ch nf j l
  ·have h4:=hin l o' hw h2
   have up:∀ l0 b0 o0, lim <= l0 -> Mc.get l0 = some o0 -> ρ l0 = some b0 -> b0.blk = b.blk -> w0.heap.size <= b.blk ∨ ∃ l1 b1 o1, lim <= l1 /\ l1 < s.nx /\ s.M.get l1 = some o1 /\ ρ0 l1 = some b1 /\ b1.blk = b.blk:=fun l0 b0 o0 a0 a1 a2 a3=>by
    rcases Nat.lt_or_ge l0 s.nx with c | c
    ·cases hs0:s.M.get l0 with
     | none=>rw [h.goes.dead l0 c hs0] at a1; cases a1
     | some o1=>exact .inr ⟨l0, b0, o1, a0, c, hs0, by rw [← h.goes.ext l0 (.inl c)]; exact a2, a3⟩
    ·rcases h.goes.new l0 b0 o0 c a1 a2 with c2 | ⟨l1, b1, o1, c1, c2, c3, c4, c5⟩
     ·exact .inl (by omega)
     ·exact .inr ⟨l1, b1, o1, c1, c2, c3, c4, by omega⟩
   rcases hw with ⟨hc, hlv⟩ | hr
   ·obtain ⟨o0, c1, c2, _⟩:=hturn l o' hc hlv h4
    rw [hfr l (by have:=(hvj l hlv).1; omega)] at h3
    exact up l b o0 (by omega) c2 h3 rfl
   ·rcases g.new l b o' hr.1 h4 h3 with c | ⟨l0, b0, o0, c1, c2, c3, c4, c5⟩
    ·exact .inl (Nat.le_trans h.goes.below.size c)
    ·have hll:lim <= l0:=by
      cases hc:ch j with
      | true=>rw [hc] at c1; exact c1
      | false=>rw [hc] at c1; simp only[cond_false] at c1; omega
     exact up l0 b0 o0 hll (hview l0 o0 c3).2 c4 c5
  ·rw [hout l hw] at h2
   rw [hfr l (hMnone l o' h2)] at h3
   exact h.goes.new l b o' h1 h2 h3
 ·by_cases hw:wrB vw ch nf j l
  ·rcases hw with ⟨_, hlv⟩ | hr
   ·have:=(hvj l hlv).1; omega
   ·omega
  ·rw [hout l hw]; exact h.goes.fin hf l hl
 ·by_cases hw:wrB vw ch nf j l
  ·exact hm'.obj l o' (hin l o' hw hl)
  ·rw [hout l hw] at hl
   obtain ⟨b, hb, hB, hob⟩:=h.mem.obj l o' hl
   exact ⟨b, hx _ _ hb, hB, hob.keep hx (hun l o' b hl hb hw)⟩
 ·by_cases hw:wrB vw ch nf j l <;> by_cases hw':wrB vw ch nf j l'
  ·exact hm'.dist l l' o1 o2 b1 b2 (hin l o1 hw hl) (hin l' o2 hw' hl') e1 e2 e3 hs
  ·rw [hout l' hw'] at hl'
   rw [hfr l' (hMnone l' o2 hl')] at e2
   exact absurd e3 (hmix l o1 b1 l' o2 b2 hw (hin l o1 hw hl) e1 hw' hl' e2)
  ·rw [hout l hw] at hl
   rw [hfr l (hMnone l o1 hl)] at e1
   exact absurd e3.symm (hmix l' o2 b2 l o1 b1 hw' (hin l' o2 hw' hl') e2 hw hl e1)
  ·rw [hout l hw] at hl
   rw [hout l' hw'] at hl'
   rw [hfr l (hMnone l o1 hl)] at e1
   rw [hfr l' (hMnone l' o2 hl')] at e2
   exact h.mem.dist l l' o1 o2 b1 b2 hl hl' e1 e2 e3 hs
end
end
end Go.Bv
end
section
namespace Go.Bv
open Go.RowKit
noncomputable section
section
variable {P:Program} {lim:Nat} {ops:Array Oper} {s s1 s':St} {e:XE}
variable {k r:Nat} {vf:Nat -> VV} {ff:Nat -> Fr} {Mf:Nat -> Mem} {nf:Nat -> Nat} {vw:Nat -> List Nat} {ch:Nat -> Bool}
section
variable {B n:Nat} {ρ0:Rho} {w0:World} {b:Frame} {cs0:List Frame} {L:Nat -> Bool} {Mc:Mem} {ρ:Rho} {a:Act} {w:World} {cs:List Frame}
theorem InvQ.mini (h:InvQ P lim ops s k r vf Mf nf vw ch B n ρ0 w0 b cs0 L Mc ρ a w cs) (hst:∀ j, k <= j -> j < k + r -> StepF P lim ops s k vf ff Mf nf vw ch j) (hu:upB ops = true) (hff:ff k = s.fr)
  {j:Nat} {o:Oper} {l:List Tmp} (hk:k <= j) (hj:j < k + r) (ho:ops[j]? = some o) (hl:zfH ops j l = true) (hL:L j = false) (hanc:∀ e ∈ o.after.toList, Region.binds .any e = true -> L e.on = true):FrRel ρ n (mini (ff j) l) a.tmps:=by
 refine ⟨h.size, fun t x hx=>?_⟩
 rcases zfU hx with rfl | ⟨ht, hx⟩
 ·simp [VRel]
 ·rcases zpd hst j hk (Nat.le_of_lt hj) t x hx with ⟨w', o', h1, h2, h3, h4, rfl⟩ | ⟨h1, h2⟩
  ·rcases zge hl ht h3 h4 (by omega) with h5 | h5
   ·have h6:=vT h.down j o ho hanc w' h5
    exact h.done w' o' t h1 (by omega) h6 h3 h4
   ·have:=zlY hu h5; omega
  ·rw [hff] at h2
   refine h.rest t x (fun i o' a1 a2 a3 a4 a5=>?_) h2
   rcases Nat.lt_or_ge i j with h6 | h6
   ·exact h1 i o' a1 h6 a4 a5
   ·have hne:i ≠ j:=fun e=>by subst e; rw [hL] at a3; cases a3
    rcases zge hl ht a4 a5 hne with h5 | h5
    ·have:=zlY hu h5; omega
    ·have h7:=vT h.down i o' a4 (h.down i o' a4 a3) j h5
     rw [hL] at h7; cases h7
theorem zpq {L:Nat -> Bool} {j:Nat} {o:Oper} (hd:zcL ops L) (ho:ops[j]? = some o) (hanc:∀ e ∈ o.after.toList, Region.binds .any e = true -> L e.on = true):zcL ops (zbh L j):=fun i o' hi hL e he hb=>by
 rw [kC] at hL ⊢
 rcases hL with hL | rfl
 ·exact .inl (hd i o' hi hL e he hb)
 ·rw [ho] at hi; injection hi with hi; subst hi
  exact .inl (hanc e he hb)
theorem InvQ.step (h:InvQ P lim ops s k r vf Mf nf vw ch B n ρ0 w0 b cs0 L Mc ρ a w cs) (hst:∀ j, k <= j -> j < k + r -> StepF P lim ops s k vf ff Mf nf vw ch j) (hu:upB ops = true) (hds:zdO ops.toList 0 = true) (hff:ff k = s.fr) (hnk:nf k = s.nx) (hlim:lim <= s.nx)
  (hfin0:∀ l, s.nx <= l -> s.M.get l = none) (hf:Fresh ρ0 s.nx (nf (k + r))) {j:Nat} {o:Oper} {rest:List Nat} {kk:List Item} (hk:k <= j) (hj:j < k + r) (ho:ops[j]? = some o) (hL:L j = false) (hanc:∀ e ∈ o.after.toList, Region.binds .any e = true -> L e.on = true):
  ∃ Mc' ρ' a' w' cs', InvQ P lim ops s k r vf Mf nf vw ch B n ρ0 w0 b cs0 (zbh L j) Mc' ρ' a' w' cs' /\ Steps P (lone (b.atR a (.inRegion ops (j :: rest) :: kk)) cs w) (lone (b.atR a' (.inRegion ops rest :: kk)) cs' w'):=by
 obtain ⟨o', l, ho', hlk, hdo, hff', ⟨hn1, hn2⟩, hvj, ⟨h00, _⟩, _, _, hcase⟩:=hst j hk hj
 rw [ho] at ho'; injection ho' with ho'; subst ho'
 have hfr:=h.mini hst hu hff hk hj ho hlk.1 hL hanc
 have hdown:=zpq h.down ho hanc
 have hold:∀ i, i < k -> zbh L j i = true:=fun i hi=>kC.2 (.inl (h.old i hi))
 have hbeh:∀ i, k + r <= i -> zbh L j i = false:=fun i hi=>by
  simp only[zbh, h.beh i hi, Bool.false_or]; simp; omega
 have ancL:∀ i, (maskAt ops j).testBit i = true -> L i = true:=fun i hi=>vT h.down j o ho hanc i hi
 have hlt:∀ d, o.dst = some d -> d < a.tmps.size:=fun d hd=>by
  rw [hd] at hdo
  simp only[xM, zLa] at hdo
  have:=qo.1 hdo.1
  rw [h.size, ← h.nn]; exact this
 -- the frame behind it
 have hdone:∀ (ρ':Rho) (u:Value), zak ρ ρ' -> VRel ρ' (vf j) u -> ∀ i o' d, k <= i -> i < k + r -> zbh L j i = true -> ops[i]? = some o' -> o'.dst = some d -> VRel ρ' (vf i) ((a.put o.dst u).tmps.getD d undef):=by
  intro ρ' u hx hv i o' d h1 h2 h3 h4 h5
  by_cases e:i = j
  ·subst e
   rw [ho] at h4; injection h4 with h4; subst h4
   have hd:=hlt d h5
   rw [h5]
   simp only[Act.put, Av.getD_put]
   rw [if_pos ⟨by trivial, hd⟩]; exact hv
  ·have hLi:L i = true:=by
    rcases kC.1 h3 with h6 | h6
    ·exact h6
    ·exact absurd h6 e
   have h6:=(h.done i o' d h1 h2 hLi h4 h5).ext hx
   cases hdj:o.dst with
   | none=>exact h6
   | some dd=>
    have hne:d ≠ dd:=fun e2=>e (zsk hds h4 ho h5 (by rw [hdj, e2]))
    simp only[Act.put, Av.getD_put]
    rw [if_neg (fun c=>hne c.1)]; exact h6
 have hrest:∀ (ρ':Rho) (u:Value), zak ρ ρ' -> ∀ t x, (∀ i o', k <= i -> i < k + r -> zbh L j i = true -> ops[i]? = some o' -> o'.dst ≠ some t) -> s.fr.get t = some x -> VRel ρ' x ((a.put o.dst u).tmps.getD t undef):=by
  intro ρ' u hx t x hno hg
  have h6:=(h.rest t x (fun i o' a1 a2 a3 a4=>hno i o' a1 a2 (kC.2 (.inl a3)) a4) hg).ext hx
  cases hdj:o.dst with
  | none=>exact h6
  | some dd=>
   have hne:t ≠ dd:=fun e2=>hno j o hk hj (kC.2 (.inr rfl)) ho (by rw [hdj, e2])
   simp only[Act.put, Av.getD_put]
   rw [if_neg (fun c=>hne c.1)]; exact h6
 -- what comes of it all
 have close:∀ (Mc':Mem) (ρ':Rho) (a':Act) (u:Value) (w':World) (cs':List Frame), InvM P lim s k r Mf nf vw ch B ρ0 w0 (zbh L j) Mc' ρ' w' -> zak ρ ρ' -> VRel ρ' (vf j) u -> a'.tmps = a.tmps -> DRelL ρ' s.dfs a'.defers -> UR ρ' s.up b cs0 cs' ->
   InvQ P lim ops s k r vf Mf nf vw ch B n ρ0 w0 b cs0 (zbh L j) Mc' ρ' (a'.put o.dst u) w' cs':=by
  intro Mc' ρ' a' u w' cs' hm hx hv ht hd hup
  have hput:(a'.put o.dst u).tmps = (a.put o.dst u).tmps:=by cases hd:o.dst <;> simp [Act.put, ht]
  refine ⟨hdown, hold, hbeh, hm, by rw [Av.size_put, ht]; exact h.size, ?_, ?_, by rw [Av.defers_put]; exact hd, hup, h.rnd, h.nn, h.fid⟩
  ·intro i o' d x1 x2 x3 x4 x5
   rw [hput]; exact hdone ρ' u hx hv i o' d x1 x2 x3 x4 x5
  ·intro t x x1 x2
   rw [hput]; exact hrest ρ' u hx t x x1 x2
 rcases hcase with ⟨hw, hv, hn, hc⟩ | ⟨hw, Mv, M'', hMv, hop, hnew, hnV, hns⟩
 ·-- it is passed over
  refine ⟨Mc, ρ, a.put o.dst undef, w, cs, close Mc ρ a undef w cs (h.m.idle hst h.down hk hj ho hL hanc hn hc) (fun _ _ x=>x) (by rw [hv]; simp [VRel, VRelL, undef]) rfl h.dfs h.up, .one ?_⟩
  have hst:=stepR_op_skip (P:=P) (b:=b) (a:=a) (k:=kk) (cs:=cs) (w:=w) (ops:=ops) (i:=j) (rest:=rest) (by simp [ho, zbW hfr hw])
  simp only[ho, Option.bind_some] at hst
  exact hst
 ·-- it is done
  have hfind:∀ x, x ∈ vw j -> Mc.get x = (Mf j).get x:=fun x hx=>h.m.finds hst h.down hk hj ho hL hanc hx
  have hview:∀ x o', Mv.get x = some o' -> (x ∈ vw j ∨ x = 0) /\ Mc.get x = some o':=fun x o' hx=>by
   obtain ⟨c, hx⟩:=hMv.1 x o' hx
   refine ⟨c, ?_⟩
   rcases c with c | rfl
   ·rw [hfind x c]; exact hx
   ·rw [h.m.finds0 hst hk hj]; exact hx
  have hfresh:Fresh ρ (nf j) (nf (j + 1)):=fun l' h1 h2=>h.m.fresh j l' hk hj hL h1 h2
  have hnj:s.nx <= nf j:=by rw [← hnk]; exact zdL hst (Nat.le_refl k) hk (by omega)
  obtain ⟨u, a', w', cs', ρ', g, r1, ht, hv, hsteps⟩:=hop.2.2 B n ρ w a b kk cs0 cs ops j rest (by cases ch j <;> simp only[cond_true, cond_false] <;> omega) hfresh
   ⟨h.m.base, fun l' hl'=>by
    cases hn:Mv.get l' with
    | none=>rfl
    | some o'=>
     simp only at hl'
     rcases (hview l' o' hn).1 with c | c
     ·have:=(hvj l' c).1; omega
     ·omega, ⟨fun l' o' hl'=>h.m.mem.obj l' o' (hview l' o' hl').2, fun l1 l2 o1 o2 b1 b2 x1 x2=>h.m.mem.dist l1 l2 o1 o2 b1 b2 (hview _ _ x1).2 (hview _ _ x2).2⟩, hfr, h.dfs, h.up, h.rnd, h.nn, h.fid⟩ ho (zbW hfr hw)
  obtain ⟨Mc', hm'⟩:=h.m.step hst h.down hlim hnk hk hj ho hL hanc hMv hnew hnV hns g r1.mem
  exact ⟨Mc', ρ', _, w', cs', close Mc' ρ' a' u w' cs' hm' (g.rext hfresh) hv ht r1.dfs r1.up, hsteps⟩
end
theorem zlC (hst:∀ j, k <= j -> j < k + r -> StepF P lim ops s k vf ff Mf nf vw ch j) (hu:upB ops = true) (hds:zdO ops.toList 0 = true) (hff:ff k = s.fr) (hnk:nf k = s.nx) (hMk:Mf k = s.M) (hr:k + r <= ops.size)
  (hnext:k + r = ops.size ∨ zh6 ops (k + r) = true) (h2:TSO P lim ops (k + r) { s with fr:=ff (k + r), M:=Mf (k + r), nx:=nf (k + r) } e s'):TSO P lim ops k s e s':=by
 have hn1:s.nx <= nf (k + r):=by rw [← hnk]; exact zh5 hst k (Nat.le_refl _) r (Nat.le_refl _)
 have hn2:nf (k + r) <= s'.nx:=h2.1
 refine ⟨by omega, fun t listed hl=>⟨by omega, fun B n ρ w a b kk cs0 cs hlim hf hs=>?_⟩⟩
 have finish:∀ (fuel t:Nat) (listed:Array Bool) (Mc:Mem) (ρ':Rho) (a':Act) (w':World) (cs':List Frame), listed.size = ops.size -> fuel = unl ops.size (fun i=>listed.getD i false) ->
   InvQ P lim ops s k r vf Mf nf vw ch B n ρ w b cs0 (fun i=>listed.getD i false) Mc ρ' a' w' cs' -> (∀ i, i < k + r -> listed.getD i false = true) ->
   ∃ a2 w2 cs2 ρ2, Goes lim B s.nx s'.nx ρ ρ2 s.M s'.M w w2 /\ SR B n ρ2 s' b cs0 cs2 a2 w2 /\ AtX P (lone (b.atR a' ([.inRegion ops (Region.linearise.go .any ops fuel t listed [])] ++ kk)) cs' w') b kk cs2 ρ2 a2 w2 e:=by
  intro fuel t listed Mc ρ' a' w' cs' hsz hfu hI hall
  have hx:zdX ops (k + r) listed:=⟨hsz, fun i hi=>by
   rcases Nat.lt_or_ge i (k + r) with h1 | h1
   ·rw [hall i h1]; simp [h1]
   ·have:listed.getD i false = false:=hI.beh i h1
    rw [this]; simp; omega⟩
  have hfuel:fuel = ops.size - (k + r):=by rw [hfu]; exact zjO hr hx.2
  subst hfuel
  have he:∀ l, Mc.get l = (Mf (k + r)).get l:=fun l=>by rw [hI.m.get l, zdi hst r (Nat.le_refl _) fun d' hd' _=>hall _ (by omega)]
  have hg:=hI.m.goes.congrR he
  have hfr:FrRel ρ' n (ff (k + r)) a'.tmps:=⟨hI.size, fun t x hx=>by
   rcases zpd hst (k + r) (by omega) (Nat.le_refl _) t x hx with ⟨w', o', h1, h2, h3, h4, rfl⟩ | ⟨h1, h2⟩
   ·exact hI.done w' o' t h1 h2 (hall w' h2) h3 h4
   ·rw [hff] at h2
    exact hI.rest t x (fun i o' a1 a2 a3 a4=>h1 i o' a1 a2 a4) h2⟩
  obtain ⟨a2, w2, cs2, ρ2, g, r1, x⟩:=(h2.2 t listed hx).2 B n ρ' w' a' b kk cs0 cs' (Nat.le_trans hlim hn1) (hf.right hg) ⟨hI.m.base, fun l hl=>by rw [← he l]; exact hI.m.goes.fin hs.fin l hl, hI.m.mem.congr he, hfr, hI.dfs, hI.up, hI.rnd, hI.nn, hI.fid⟩
  exact ⟨a2, w2, cs2, ρ2, hg.trans g, r1, x⟩
 have key:∀ (fuel t:Nat) (listed:Array Bool) (Mc:Mem) (ρ':Rho) (a':Act) (w':World) (cs':List Frame), listed.size = ops.size -> fuel = unl ops.size (fun i=>listed.getD i false) ->
   InvQ P lim ops s k r vf Mf nf vw ch B n ρ w b cs0 (fun i=>listed.getD i false) Mc ρ' a' w' cs' ->
   ∃ a2 w2 cs2 ρ2, Goes lim B s.nx s'.nx ρ ρ2 s.M s'.M w w2 /\ SR B n ρ2 s' b cs0 cs2 a2 w2 /\ AtX P (lone (b.atR a' ([.inRegion ops (Region.linearise.go .any ops fuel t listed [])] ++ kk)) cs' w') b kk cs2 ρ2 a2 w2 e:=by
  intro fuel
  induction fuel with
  | zero=>
   intro t listed Mc ρ' a' w' cs' hsz hfu hI
   have hall:=znC hfu.symm
   have hrm:k + r = ops.size:=by
    rcases Nat.lt_or_ge (k + r) ops.size with h1 | h1
    ·have h3:=hI.beh (k + r) (Nat.le_refl _)
     simp only[hall _ h1] at h3
     cases h3
    ·omega
   exact finish 0 t listed Mc ρ' a' w' cs' hsz hfu hI (fun i hi=>hall i (by omega))
  | succ f ih=>
   intro t listed Mc ρ' a' w' cs' hsz hfu hI
   by_cases hall:∀ i, i < k + r -> listed.getD i false = true
   ·exact finish (f + 1) t listed Mc ρ' a' w' cs' hsz hfu hI hall
   ·obtain ⟨j, hj⟩:∃ j, ¬ (j < k + r -> listed.getD j false = true):=Classical.not_forall.1 hall
    have hj1:j < k + r:=Classical.byContradiction fun c=>hj fun c2=>absurd c2 c
    have hj2:¬ listed.getD j false = true:=fun c=>hj fun _=>c
    rcases zjn (ops:=ops) f t listed with ⟨h1, _⟩ | ⟨i, t', h1, h3⟩
    ·exact absurd (ready_nil hu hsz h1 j (by omega)) hj2
    ·obtain ⟨o, h4, h5, h6⟩:=zfG hsz h1
     have hlt:=wK h4
     have hik:k <= i:=by
      rcases Nat.lt_or_ge i k with h7 | h7
      ·have:=hI.old i h7
       simp only[h5] at this; cases this
      ·exact h7
     have hir:i < k + r:=by
      rcases Nat.lt_or_ge i (k + r) with h7 | h7
      ·exact h7
      ·rcases hnext with h8 | h8
       ·omega
       ·obtain ⟨c1, c2⟩:=zhm h8
        have hanc:=vT (L:=fun i=>listed.getD i false) hI.down i o h4 h6
        rcases Nat.lt_or_ge (k + r) i with h9 | h9
        ·have h10:=hanc _ (c2 i h9 hlt)
         have h11:listed.getD (k + r) false = false:=hI.beh (k + r) (Nat.le_refl _)
         have h10:listed.getD (k + r) false = true:=h10
         rw [h10] at h11; cases h11
        ·have:i = k + r:=by omega
         subst this
         exact absurd (hanc j (c1 j hj1)) hj2
     rw [h3]
     obtain ⟨Mc', ρ1, a1, w1, cs1, hI', hsteps⟩:=hI.step hst hu hds hff hnk hlim hs.fin (hf.left hn2) (rest:=Region.linearise.go .any ops f t' (listed.setIfInBounds i true) []) (kk:=kk) hik hir h4 h5 h6
     have hL:(fun x=>(listed.setIfInBounds i true).getD x false) = zbh (fun x=>listed.getD x false) i:=funext fun x=>za6 (by omega) x
     have hfu':f = unl ops.size (fun x=>(listed.setIfInBounds i true).getD x false):=by
      have:=zqJ (m:=ops.size) (j:=i) (L:=fun x=>listed.getD x false) (L':=fun x=>(listed.setIfInBounds i true).getD x false) hlt h5 (by rw [za6 (by omega)]; simp) (fun x hx=>by rw [za6 (by omega)]; simp [hx])
      omega
     rw [← hL] at hI'
     obtain ⟨a2, w2, cs2, ρ2, g, r1, x⟩:=ih t' (listed.setIfInBounds i true) Mc' ρ1 a1 w1 cs1 (by simpa using hsz) hfu' hI'
     exact ⟨a2, w2, cs2, ρ2, g, r1, .of_steps hsteps x⟩
 have hfu:ops.size - k = unl ops.size (fun i=>listed.getD i false):=(zjO (by omega) hl.2).symm
 have hLk:∀ d', k + d' < ops.size -> listed.getD (k + d') false = false:=fun d' hd'=>by
  rw [hl.2 _ hd']; simp
 refine key (ops.size - k) t listed s.M ρ a w cs hl.1 hfu ⟨zeC hu hl, fun i hi=>?_, fun i hi=>?_, ⟨fun l=>?_, fun i l a1 a2 _ a3 a4=>?_, ?_, hs.base, hs.mem⟩, hs.fr.1, fun i o d h1 h3 h4=>?_, fun t x _ hx=>hs.fr.2 t x hx, hs.dfs, hs.up, hs.rnd, hs.nn, hs.fid⟩
 ·rw [hl.2 i (by omega)]; simp [hi]
 ·rcases Nat.lt_or_ge i ops.size with h1 | h1
  ·rw [hl.2 i h1]; simp; omega
  ·simp [Array.getD, show ¬ i < listed.size by rw [hl.1]; omega]
 ·have:=zaT (k:=k) (Mf:=Mf) (nf:=nf) (vw:=vw) (ch:=ch) (L:=fun i=>listed.getD i false) (x:=l) (d:=0) r fun d' _ h2 _=>hLk d' (by omega)
  rw [Nat.zero_add] at this
  rw [this]
  show s.M.get l = (Mf k).get l
  rw [hMk]
 ·have h5:=zdL hst (Nat.le_refl k) (b:=i) (by omega) (by omega)
  have h6:=zdL hst (a:=i + 1) (b:=k + r) (by omega) (by omega) (Nat.le_refl _)
  exact hf l (by omega) (by omega)
 ·exact ⟨fun _ _=>rfl, hn1, Below.refl _ _, fun _ _ _=>rfl, fun _ _=>rfl, fun _ _ h=>h, fun l b o h1 h3 _=>(by rw [hs.fin l h1] at h3; cases h3), fun h l hl=>h l (by omega)⟩
 ·simp only[hl.2 i (by omega)] at h4
  have:=of_decide_eq_true h4; omega
end
end
end Go.Bv
end
