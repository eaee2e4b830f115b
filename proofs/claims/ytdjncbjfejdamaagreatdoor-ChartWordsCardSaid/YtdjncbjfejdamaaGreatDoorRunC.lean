import Derived.Test.YtdjncbjfejdamaaGreatDoorRunB
set_option linter.unusedVariables false
set_option linter.unusedSimpArgs false
section
namespace Go.Bv
open Go.RowKit
noncomputable section
def kH (acc:List Nat):List Edge -> Nat
 | []=>0
 | e :: es=>bif Region.binds .any e then Nat.lor (Nat.lor (Nat.shiftLeft 1 e.on) (acc.getD e.on 0)) (kH acc es) else kH acc es
def zbZ (ops:Array Oper) (k:Nat) (acc:List Nat):List Nat:=acc ++ [match ops[k]? with | some o=>kH acc o.after.toList | none=>0]
def zaf (ops:Array Oper):Nat -> List Nat
 | 0=>[]
 | k + 1=>zbZ ops k (zaf ops k)
def maskAt (ops:Array Oper) (j:Nat):Nat:=(zaf ops ops.size).getD j 0
theorem zk6 (k:Nat):Nat.testBit 1 k = decide (k = 0):=by
 cases k with
 | zero=>rfl
 | succ k=>rw [Nat.testBit_succ]; simp
theorem zaK {acc:List Nat} {i:Nat}:∀ {es:List Edge}, (kH acc es).testBit i = true -> ∃ e ∈ es, Region.binds .any e = true /\ (e.on = i ∨ (acc.getD e.on 0).testBit i = true)
 | [], h=>by simp [kH] at h
 | e :: es, h=>by
  rw [kH] at h
  cases hb:Region.binds .any e with
  | false=>
   rw [hb] at h
   obtain ⟨e', h1, h2⟩:=zaK h
   exact ⟨e', List.mem_cons_of_mem _ h1, h2⟩
  | true=>
   rw [hb] at h
   simp only[cond_true] at h
   change (((1 <<< e.on) ||| acc.getD e.on 0) ||| kH acc es).testBit i = true at h
   rw [Nat.testBit_or, Nat.testBit_or, Bool.or_eq_true, Bool.or_eq_true] at h
   rcases h with (h | h) | h
   ·
    rw [Nat.testBit_shiftLeft, zLa, decide_eq_true_eq] at h
    refine ⟨e, by simp, hb, .inl ?_⟩
    have h2:=h.2
    rw [zk6] at h2
    have:=of_decide_eq_true h2
    omega
   ·
    exact ⟨e, by simp, hb, .inr h⟩
   ·
    obtain ⟨e', h1, h2⟩:=zaK h
    exact ⟨e', List.mem_cons_of_mem _ h1, h2⟩
section
variable {ops:Array Oper}
theorem y5:∀ k, (zaf ops k).length = k
 | 0=>rfl
 | k + 1=>by simp [zaf, zbZ, y5 k]
theorem zaO {j:Nat}:∀ {k:Nat}, j < k -> (zaf ops k).getD j 0 = (zaf ops (j + 1)).getD j 0
 | 0, h=>by omega
 | k + 1, h=>by
  rcases Nat.lt_or_ge j k with h1 | h1
  ·
   rw [← zaO h1]
   show (zbZ ops k (zaf ops k)).getD j 0 = _
   unfold zbZ
   rw [List.getD_eq_getElem?_getD, List.getElem?_append_left (by rw [y5]; exact h1), ← List.getD_eq_getElem?_getD]
  ·
   have:j = k:=by omega
   subst this; rfl
theorem zil {j:Nat}:(zaf ops (j + 1)).getD j 0 = match ops[j]? with | some o=>kH (zaf ops j) o.after.toList | none=>0:=by
 show (zbZ ops j (zaf ops j)).getD j 0 = _
 unfold zbZ
 rw [List.getD_eq_getElem?_getD, List.getElem?_append_right (by rw [y5]; exact Nat.le_refl _), y5]
 simp
theorem wV {j:Nat} {o:Oper} (h:ops[j]? = some o):j < ops.size:=(Array.getElem?_eq_some_iff.1 h).1
theorem zje {j i:Nat} {o:Oper} (ho:ops[j]? = some o) (h:(maskAt ops j).testBit i = true):∃ e ∈ o.after.toList, Region.binds .any e = true /\ (e.on = i ∨ (e.on < j /\ (maskAt ops e.on).testBit i = true)):=by
 unfold maskAt at h
 rw [zaO (wV ho), zil, ho] at h
 obtain ⟨e, h1, h2, h3⟩:=zaK h
 refine ⟨e, h1, h2, h3.imp id fun h4=>?_⟩
 have hlt:e.on < j:=by
  rcases Nat.lt_or_ge e.on j with h5 | h5
  ·
   exact h5
  ·
   rw [List.getD_eq_getElem?_getD, List.getElem?_eq_none (by rw [y5]; exact h5)] at h4
   simp at h4
 refine ⟨hlt, ?_⟩
 unfold maskAt
 rw [zaO (Nat.lt_trans hlt (wV ho)), ← zaO hlt]
 exact h4
def zgL (ops:Array Oper) (L:Nat -> Bool):Prop:=∀ j o, ops[j]? = some o -> L j = true -> ∀ e ∈ o.after.toList, Region.binds .any e = true -> L e.on = true
theorem yF {L:Nat -> Bool} (hd:zgL ops L):∀ (j:Nat) (o:Oper), ops[j]? = some o -> (∀ e ∈ o.after.toList, Region.binds .any e = true -> L e.on = true) -> ∀ i, (maskAt ops j).testBit i = true -> L i = true:=by
 intro j
 induction j using Nat.strongRecOn with
 | _ j ih=>
  intro o ho ha i hb
  obtain ⟨e, h1, h2, h3⟩:=zje ho hb
  rcases h3 with h3 | ⟨h3, h4⟩
  ·
   rw [← h3]; exact ha e h1 h2
  ·
   have hlt:e.on < ops.size:=Nat.lt_trans h3 (wV ho)
   exact ih e.on h3 ops[e.on] (by simp [hlt]) (hd _ _ (by simp [hlt]) (ha e h1 h2)) i h4
def upB (ops:Array Oper):Bool:=(List.range ops.size).all fun j=>match ops[j]? with | some o=>o.after.toList.all fun e=>!Region.binds .any e || Nat.blt e.on j | none=>true
theorem zfy (h:upB ops = true) {j:Nat} {o:Oper} (ho:ops[j]? = some o):∀ e ∈ o.after.toList, Region.binds .any e = true -> e.on < j:=by
 intro e he hb
 unfold upB at h
 rw [List.all_eq_true] at h
 have h1:=h j (List.mem_range.2 (wV ho))
 rw [ho] at h1
 simp only[List.all_eq_true] at h1
 have h2:=h1 e he
 rw [hb] at h2
 simpa [qH] using h2
theorem zlp (hu:upB ops = true):∀ {j i:Nat}, (maskAt ops j).testBit i = true -> i < j:=by
 intro j
 induction j using Nat.strongRecOn with
 | _ j ih=>
  intro i hb
  cases ho:ops[j]? with
  | none=>
   have hge:ops.size <= j:=by simpa using ho
   unfold maskAt at hb
   rw [List.getD_eq_getElem?_getD, List.getElem?_eq_none (by rw [y5]; exact hge)] at hb
   simp at hb
  | some o=>
   obtain ⟨e, h1, h2, h3⟩:=zje ho hb
   rcases h3 with h3 | ⟨h3, h4⟩
   ·
    rw [← h3]; exact zfy hu ho e h1 h2
   ·
    exact Nat.lt_trans (ih _ h3 h4) h3
def zcZ:List Oper -> Nat -> Bool
 | [], _=>true
 | o :: r, seen=>match o.dst with
  | none=>zcZ r seen
  | some d=>!(Nat.testBit seen d) && zcZ r (Nat.lor seen (Nat.shiftLeft 1 d))
theorem zdr {a d x:Nat}:(Nat.lor a (Nat.shiftLeft 1 d)).testBit x = (a.testBit x || decide (x = d)):=by
 change (a ||| (1 <<< d)).testBit x = _
 rw [Nat.testBit_or, Nat.testBit_shiftLeft, zk6]
 congr 1
 by_cases h:x = d
 ·
  subst h; simp
 ·
  rcases Nat.lt_or_ge x d with h1 | h1
  ·
   simp [h]; omega
  ·
   simp [h]; omega
theorem zcF:∀ {l:List Oper} {seen:Nat}, zcZ l seen = true -> (∀ (i:Nat) (o:Oper) (d:Nat), l[i]? = some o -> o.dst = some d -> seen.testBit d = false) /\ (∀ (i j:Nat) (o o':Oper) (d:Nat), i < j -> l[i]? = some o -> l[j]? = some o' -> o.dst = some d -> o'.dst = some d -> False)
 | [], _, _=>⟨fun i o d h=>by simp at h, fun i j o o' d _ h=>by simp at h⟩
 | o :: r, seen, h=>by
  rw [zcZ] at h
  cases hd:o.dst with
  | none=>
   rw [hd] at h
   obtain ⟨h1, h2⟩:=zcF h
   refine ⟨fun i p d hi hp=>?_, fun i j p p' d hij hi hj hp hp'=>?_⟩
   ·
    cases i with
    | zero=>simp at hi; subst hi; rw [hd] at hp; cases hp
    | succ i=>exact h1 i p d (by simpa using hi) hp
   ·
    cases j with
    | zero=>omega
    | succ j=>
     cases i with
     | zero=>simp at hi; subst hi; rw [hd] at hp; cases hp
     | succ i=>exact h2 i j p p' d (by omega) (by simpa using hi) (by simpa using hj) hp hp'
  | some d0=>
   rw [hd] at h
   simp only[zLa, Bool.not_eq_true'] at h
   obtain ⟨h0, h⟩:=h
   obtain ⟨h1, h2⟩:=zcF h
   have key:∀ (i:Nat) (p:Oper) (d:Nat), r[i]? = some p -> p.dst = some d -> seen.testBit d = false /\ d ≠ d0:=fun i p d hi hp=>by
    have:=h1 i p d hi hp
    rw [zdr] at this
    simpa using this
   refine ⟨fun i p d hi hp=>?_, fun i j p p' d hij hi hj hp hp'=>?_⟩
   ·
    cases i with
    | zero=>simp at hi; subst hi; rw [hd] at hp; injection hp with hp; subst hp; exact h0
    | succ i=>exact (key i p d (by simpa using hi) hp).1
   ·
    cases j with
    | zero=>omega
    | succ j=>
     cases i with
     | zero=>simp at hi; subst hi; rw [hd] at hp; injection hp with hp; subst hp; exact (key j p' _ (by simpa using hj) hp').2 rfl
     | succ i=>exact h2 i j p p' d (by omega) (by simpa using hi) (by simpa using hj) hp hp'
theorem zrS (h:zcZ ops.toList 0 = true) {i j:Nat} {o o':Oper} {d:Nat} (hi:ops[i]? = some o) (hj:ops[j]? = some o') (hd:o.dst = some d) (hd':o'.dst = some d):i = j:=by
 have h2:=(zcF h).2
 rcases Nat.lt_trichotomy i j with h1 | h1 | h1
 ·
  exact (h2 i j o o' d h1 (by simpa using hi) (by simpa using hj) hd hd').elim
 ·
  exact h1
 ·
  exact (h2 j i o' o d h1 (by simpa using hj) (by simpa using hi) hd' hd).elim
def ze7 (ops:Array Oper) (j:Nat) (l:List Tmp):Bool:=l.all fun t=>(List.range ops.size).all fun w=>Nat.beq w j || match ops[w]? with
 | some o=>(match o.dst with | some d=>!(Nat.beq d t) || Nat.testBit (maskAt ops j) w || Nat.testBit (maskAt ops w) j | none=>true)
 | none=>true
theorem zfv {j:Nat} {l:List Tmp} (h:ze7 ops j l = true) {t w:Nat} {o:Oper} (ht:t ∈ l) (hw:ops[w]? = some o) (hd:o.dst = some t) (hne:w ≠ j):(maskAt ops j).testBit w = true ∨ (maskAt ops w).testBit j = true:=by
 unfold ze7 at h
 rw [List.all_eq_true] at h
 have h1:=h t ht
 rw [List.all_eq_true] at h1
 have h2:=h1 w (List.mem_range.2 (wV hw))
 rw [hw] at h2
 simp only[hd, Bool.or_eq_true] at h2
 rcases h2 with h2 | (h2 | h2) | h2
 ·
  exact absurd (qZ.1 h2) hne
 ·
  simp at h2
 ·
  exact .inl h2
 ·
  exact .inr h2
def zhn (ops:Array Oper) (c:Nat):Bool:=(List.range c).all (fun i=>Nat.testBit (maskAt ops c) i) && (List.range ops.size).all fun x=>Nat.ble x c || Nat.testBit (maskAt ops x) c
theorem zgi {c:Nat} (h:zhn ops c = true):(∀ i, i < c -> (maskAt ops c).testBit i = true) /\ ∀ x, c < x -> x < ops.size -> (maskAt ops x).testBit c = true:=by
 unfold zhn at h
 simp only[zLa, List.all_eq_true, List.mem_range, Bool.or_eq_true] at h
 refine ⟨fun i hi=>h.1 i hi, fun x hx hs=>?_⟩
 rcases h.2 x hs with h2 | h2
 ·
  have:=zLb h2; omega
 ·
  exact h2
def unl (m:Nat) (L:Nat -> Bool):Nat:=((List.range m).filter fun i=>!L i).length
theorem zat (m:Nat) (L:Nat -> Bool):unl (m + 1) L = unl m L + (if L m then 0 else 1):=by
 unfold unl
 rw [List.range_succ, List.filter_append, List.length_append]
 cases h:L m <;> simp [h]
theorem zgh {m:Nat} {L L':Nat -> Bool} (h:∀ i, i < m -> L i = L' i):unl m L = unl m L':=by
 induction m with
 | zero=>rfl
 | succ m ih=>rw [zat, zat, ih (fun i hi=>h i (by omega)), h m (by omega)]
theorem zpE {m j:Nat} {L L':Nat -> Bool} (hj:j < m) (h0:L j = false) (h1:L' j = true) (h2:∀ i, i ≠ j -> L' i = L i):unl m L = unl m L' + 1:=by
 induction m with
 | zero=>omega
 | succ m ih=>
  rw [zat, zat]
  by_cases e:j = m
  ·
   subst e
   rw [h0, h1, zgh (fun i hi=>(h2 i (by omega)).symm)]; simp
  ·
   rw [ih (by omega), h2 m (fun e2=>e e2.symm)]; omega
theorem zjk {m k:Nat} {L:Nat -> Bool} (hk:k <= m) (h:∀ i, i < m -> L i = decide (i < k)):unl m L = m - k:=by
 induction m with
 | zero=>simp [unl]
 | succ m ih=>
  rw [zat]
  by_cases e:k = m + 1
  ·
   subst e
   rw [h m (by omega)]
   have:unl m L = unl m (fun _=>true):=zgh fun i hi=>by rw [h i (by omega)]; simp; omega
   rw [this]
   simp [unl]
  ·
   rw [ih (by omega) (fun i hi=>h i (by omega)), h m (by omega)]
   have:¬ m < k:=by omega
   simp [this]; omega
theorem zoC {m:Nat} {L:Nat -> Bool} (h:unl m L = 0):∀ i, i < m -> L i = true:=by
 induction m with
 | zero=>intro i hi; omega
 | succ m ih=>
  rw [zat] at h
  intro i hi
  by_cases e:i = m
  ·
   subst e; cases hL:L i <;> simp [hL] at h ⊢
  ·
   exact ih (by omega) i (by omega)
theorem zis (f t:Nat) (listed:Array Bool):(Region.ready .any ops listed = [] /\ Region.linearise.go .any ops (f + 1) t listed [] = []) ∨
  ∃ i t', i ∈ Region.ready .any ops listed /\ Region.linearise.go .any ops (f + 1) t listed [] = i :: Region.linearise.go .any ops f t' (listed.setIfInBounds i true) []:=by
 simp only[Region.linearise.go]
 change (_ /\ (match (Region.ready .any ops listed)[t % (Region.ready .any ops listed).length]? with
   | some i=>Region.linearise.go .any ops f (t / (Region.ready .any ops listed).length) (listed.setIfInBounds i true) [i]
   | none=>[].reverse) = []) ∨ ∃ i t', _ /\ (match (Region.ready .any ops listed)[t % (Region.ready .any ops listed).length]? with
   | some i=>Region.linearise.go .any ops f (t / (Region.ready .any ops listed).length) (listed.setIfInBounds i true) [i]
   | none=>[].reverse) = i :: Region.linearise.go .any ops f t' (listed.setIfInBounds i true) []
 cases hi:(Region.ready .any ops listed)[t % (Region.ready .any ops listed).length]? with
 | none=>
  have hnil:Region.ready .any ops listed = []:=by
   cases hr:Region.ready .any ops listed with
   | nil=>rfl
   | cons x xs=>
    rw [hr] at hi
    have hlt:t % (x :: xs).length < (x :: xs).length:=Nat.mod_lt _ (by simp)
    simp at hi
    simp at hlt
    omega
  exact .inl ⟨hnil, rfl⟩
 | some i=>
  refine .inr ⟨i, t / (Region.ready .any ops listed).length, List.mem_of_getElem? hi, ?_⟩
  simp only[]
  rw [linearise_go_acc, List.reverse_singleton, List.singleton_append]
theorem zgQ {l:Array Bool} {i:Nat} (h:i < l.size) (b:Bool):l.getD i b = l.getD i false:=by simp [Array.getD, h]
theorem zfk {listed:Array Bool} (hs:listed.size = ops.size) {j:Nat} (h:j ∈ Region.ready .any ops listed):∃ o, ops[j]? = some o /\ listed.getD j false = false /\ ∀ e ∈ o.after.toList, Region.binds .any e = true -> listed.getD e.on false = true:=by
 obtain ⟨h1, o, h2, h3⟩:=mem_ready.1 h
 exact ⟨o, h2, by rw [zgQ (by rw [hs]; exact wV h2)] at h1; exact h1, fun e he hb=>h3 e (by simpa using he) hb⟩
theorem ready_nil {listed:Array Bool} (hu:upB ops = true) (hs:listed.size = ops.size) (h:Region.ready .any ops listed = []):∀ i, i < ops.size -> listed.getD i false = true:=by
 intro i
 induction i using Nat.strongRecOn with
 | _ i ih=>
  intro hi
  cases hl:listed.getD i false with
  | true=>rfl
  | false=>
   have:i ∈ Region.ready .any ops listed:=mem_ready.2 ⟨by rw [zgQ (by omega)]; exact hl, ops[i], by simp [hi], fun e he hb=>by
    have h1:=zfy hu (j:=i) (o:=ops[i]) (by simp [hi]) e (by simpa using he) hb
    exact ih _ h1 (by omega)⟩
   rw [h] at this; cases this
theorem za9 {listed:Array Bool} {j:Nat} (hj:j < listed.size) (i:Nat):(listed.setIfInBounds j true).getD i false = (listed.getD i false || decide (i = j)):=by
 simp only[Array.getD_eq_getD_getElem?, Array.getElem?_setIfInBounds]
 by_cases e:j = i
 ·
  subst e; simp [hj]
 ·
  have:¬ i = j:=fun h=>e h.symm
  simp [e, this]
end
end
end Go.Bv
end
section
namespace Go.Bv
open Go.RowKit
noncomputable section
def mini (fr:Fr):List Tmp -> Fr
 | []=>Oc.all .top
 | t :: l=>match fr.get t with | some x=>(mini fr l).set t x | none=>mini fr l
theorem zeQ {fr:Fr}:∀ {l:List Tmp} {t:Tmp} {x:VV}, (mini fr l).get t = some x -> x = .top ∨ (t ∈ l /\ fr.get t = some x)
 | [], t, x, h=>.inl (Oc.all_get _ _ _ h)
 | u :: l, t, x, h=>by
  rw [mini] at h
  cases hu:fr.get u with
  | none=>rw [hu] at h; exact (zeQ h).imp id fun h1=>⟨List.mem_cons_of_mem _ h1.1, h1.2⟩
  | some y=>
   rw [hu] at h
   have hlt:u < 512:=by
    rcases Nat.lt_or_ge u 512 with h1 | h1
    ·
     exact h1
    ·
     rw [Oc.get_big _ _ (by omega)] at hu; cases hu
   have h2:=Oc.get_set _ _ _ _ _ hlt h
   by_cases e:t = u
   ·
    rw [if_pos e] at h2
    subst h2; subst e
    exact .inr ⟨by simp, hu⟩
   ·
    rw [if_neg e] at h2
    exact (zeQ h2).imp id fun h1=>⟨List.mem_cons_of_mem _ h1.1, h1.2⟩
def zdW (ops:Array Oper) (k:Nat) (listed:Array Bool):Prop:=listed.size = ops.size /\ ∀ i, i < ops.size -> listed.getD i false = decide (i < k)
def TSO (P:Program) (lim:Nat) (ops:Array Oper) (k:Nat) (s:St) (e:XE) (s':St):Prop:=s.nx <= s'.nx /\ ∀ t listed, zdW ops k listed -> TS P lim [.inRegion ops (Region.linearise.go .any ops (ops.size - k) t listed [])] s e s'
def zbJ (M M2:Mem) (lo:Nat):Nat -> Mem
 | 0=>M
 | d + 1=>(zbJ M M2 lo d).set (lo + d) (M2.get (lo + d))
theorem yD (M M2:Mem) (lo l:Nat):∀ d, lo + d <= 16777215 -> (zbJ M M2 lo d).get l = if lo <= l /\ l < lo + d then M2.get l else M.get l
 | 0, _=>by
  rw [if_neg (by omega)]; rfl
 | d + 1, h=>by
  rw [zbJ, Tr.get_set _ _ _ _ (by omega), yD M M2 lo l d (by omega)]
  by_cases e:l = lo + d
  ·
   subst e
   rw [if_pos rfl, if_pos (by omega)]
  ·
   rw [if_neg e]
   by_cases h1:lo <= l /\ l < lo + d
   ·
    rw [if_pos h1, if_pos (by omega)]
   ·
    rw [if_neg h1, if_neg (by omega)]
section
variable {P:Program} {lim:Nat} {ops:Array Oper} {s s1 s':St} {e:XE}
theorem zd9 (hu:upB ops = true) {k:Nat} {listed:Array Bool} (hl:zdW ops k listed):zgL ops (fun i=>listed.getD i false):=fun j o ho hL e he hb=>by
 have h1:=zfy hu ho e he hb
 have hlt:=wV ho
 have h2:=hl.2 j hlt
 simp only[show listed.getD j false = true from hL] at h2
 have h3:j < k:=of_decide_eq_true h2.symm
 show listed.getD e.on false = true
 rw [hl.2 _ (by omega)]
 simp; omega
theorem zo8 {k:Nat} (hk:ops.size <= k):TSO P lim ops k s .normal s:=⟨Nat.le_refl _, fun t listed _=>by
 rw [show ops.size - k = 0 from by omega]
 exact TS.opEnd⟩
theorem ziF (hu:upB ops = true) {k:Nat} (hk:k < ops.size) (hc:zhn ops k = true) {listed:Array Bool} (hl:zdW ops k listed) (t:Nat):∃ t', Region.linearise.go .any ops (ops.size - k) t listed [] = k :: Region.linearise.go .any ops (ops.size - (k + 1)) t' (listed.setIfInBounds k true) [] /\ zdW ops (k + 1) (listed.setIfInBounds k true):=by
 have hx:zdW ops (k + 1) (listed.setIfInBounds k true):=⟨by simp [hl.1], fun i hi=>by
  rw [za9 (by rw [hl.1]; exact hk), hl.2 i hi]
  by_cases h1:i < k
  ·
   simp [h1]; omega
  ·
   by_cases h2:i = k
   ·
    simp [h2]
   ·
    simp [h1, h2]; omega⟩
 rw [show ops.size - k = (ops.size - (k + 1)) + 1 from by omega]
 rcases zis (ops:=ops) (ops.size - (k + 1)) t listed with ⟨h1, _⟩ | ⟨i, t', h1, h2⟩
 ·
  have:=ready_nil hu hl.1 h1 k hk
  rw [hl.2 k hk] at this
  simp at this
 ·
  obtain ⟨o, h3, h4, h5⟩:=zfk hl.1 h1
  have hlt:=wV h3
  have hik:i = k:=by
   rw [hl.2 i hlt] at h4
   have h6:¬ i < k:=of_decide_eq_false h4
   rcases Nat.lt_or_ge k i with h7 | h7
   ·
    have h8:=(zgi hc).2 i h7 hlt
    have h9:=yF (L:=fun i=>listed.getD i false) (zd9 hu hl) i o h3 h5 k h8
    simp only[hl.2 k hk] at h9
    simp at h9
   ·
    omega
  subst hik
  exact ⟨t', h2, hx⟩
theorem zpa {k:Nat} {o:Oper} {v:VV} (hu:upB ops = true) (hc:zhn ops k = true) (ho:ops[k]? = some o) (hw:yl ops s.fr o = some true) (hd:xE s1.n o.dst = true) (h:OpT P lim o s (.val v) s1)
  (h2:TSO P lim ops (k + 1) { s1 with fr:=zdS s1.fr o.dst v } e s'):TSO P lim ops k s e s':=⟨Nat.le_trans h.1 h2.1, fun t listed hl=>by
 obtain ⟨t', h3, h4⟩:=ziF hu (wV ho) hc hl t
 rw [h3]
 exact TS.opVal ho hw hd h (h2.2 t' _ h4)⟩
theorem zqE {k:Nat} {o:Oper} {v:VV} (hu:upB ops = true) (hc:zhn ops k = true) (ho:ops[k]? = some o) (hw:yl ops s.fr o = some true) (h:OpT P lim o s (.pan v) s1):TSO P lim ops k s (.pan v) s1:=⟨h.1, fun t listed hl=>by
 obtain ⟨t', h3, h4⟩:=ziF hu (wV ho) hc hl t
 rw [h3]
 exact TS.opPan ho hw h⟩
theorem zj4 {id:Nat} (hm:P.follows .mixedOrders = true) (h:TSO P lim ops 0 s e s'):TS P lim [.code (.region id ops true)] s e s':=by
 refine ⟨h.1, fun B n ρ w a b k cs0 cs hl hf hs=>?_⟩
 have hb:Below w.heap.size w w.drew:=(Below.refl _ _).drew
 obtain ⟨ρ1, g1, m1, rfl⟩:Post lim B s.nx s.nx ρ s.M s.M w { w with drawn:=w.drawn + 1 } (fun ρ'=>ρ' = ρ):=zaU hs.mem hs.fin hb hs.base rfl
 obtain ⟨a', w', cs', ρ', h3, h4, h5⟩:=(h.2 (w.tape w.drawn (.order b.fn id)) (Array.replicate ops.size false) ⟨by simp, fun i hi=>by simp [Array.getD, hi]⟩).2 B n ρ1 { w with drawn:=w.drawn + 1 } a b k cs0 cs hl hf ⟨hs.base, hs.fin, m1, hs.fr, hs.dfs, hs.up, hs.rnd, hs.nn, hs.fid⟩
 refine ⟨a', w', cs', ρ', g1.trans h3, h4, .of_steps (.one ?_) h5⟩
 have:=stepR_region_draw (P:=P) (b:=b) (a:=a) (k:=k) (cs:=cs) (w:=w) (ops:=ops) (id:=id)
 refine Eq.trans this ?_
 simp only[Region.schedule, hm, Bool.true_or, if_true]
 rfl
def Float (P:Program) (o:Oper) (s:St) (v:VV) (M:Mem) (nx:Nat):Prop:=∃ Mq nn M'', (Mq = .lf ∨ (Mq = M /\ nx <= nn)) /\ OpT P nn o { s with M:=Mq, nx:=nn } (.val v) { s with M:=M'', nx:=nn }
def StepQ (P:Program) (lim:Nat) (ops:Array Oper) (s:St) (k m:Nat) (vf:Nat -> VV) (ff:Nat -> Fr) (Mf:Nat -> Mem) (nf cf kb:Nat -> Nat) (mr ch:Nat -> Bool) (j:Nat):Prop:=∃ o l, ops[j]? = some o /\ (ze7 ops j l = true /\ l = o.looksAt ops) /\ xE s.n o.dst = true /\ ff (j + 1) = zdS (ff j) o.dst (vf j) /\
  (mr j = true -> ∀ i, k <= i -> i < j -> ch i = true -> (maskAt ops j).testBit i = true) /\ (ch j = true -> ∀ i, k <= i -> i < j -> mr i = true -> (maskAt ops j).testBit i = true) /\
  ((yl ops (mini (ff j) l) o = some false /\ vf j = .tup [] /\ mr j = false /\ ch j = false /\ Mf (j + 1) = Mf j /\ nf (j + 1) = nf j /\ cf (j + 1) = cf j /\ kb (j + 1) = kb j) ∨
   (yl ops (mini (ff j) l) o = some true /\ mr j = false /\ ch j = false /\ Mf (j + 1) = Mf j /\ nf (j + 1) = nf j /\ cf (j + 1) = cf j /\ kb (j + 1) = kb j /\
    ∀ b, k <= b -> b <= m -> kb b = b -> (∀ c, b <= c -> c < m -> ch c = true -> (maskAt ops j).testBit c = false) -> (∀ c, k <= c -> c < b -> ch c = true -> (maskAt ops c).testBit j = false) ->
      Float P o { s with fr:=mini (ff j) l } (vf j) (Mf b) (nf b)) ∨
   (yl ops (mini (ff j) l) o = some true /\ mr j = true /\ ch j = false /\ kb (j + 1) = kb j /\ ∃ (q:Bool) (M'':Mem), (q = true -> ∀ i, (cf j).testBit i = true -> (maskAt ops j).testBit i = true) /\
    OpT P (nf j) o { s with fr:=mini (ff j) l, M:=bif q then Mf j else Mf (kb j), nx:=nf j } (.val (vf j)) { s with fr:=mini (ff j) l, M:=M'', nx:=nf (j + 1) } /\
    ((nf (j + 1) = nf j /\ Mf (j + 1) = Mf j /\ cf (j + 1) = cf j) ∨
     (nf j < nf (j + 1) /\ nf (j + 1) < 16777215 /\ cf (j + 1) = Nat.lor (cf j) (Nat.shiftLeft 1 j) /\ ((q = true /\ Mf (j + 1) = M'') ∨ Mf (j + 1) = zbJ (Mf j) M'' (nf j) (nf (j + 1) - nf j))))) ∨
   (yl ops (mini (ff j) l) o = some true /\ mr j = true /\ ch j = true /\ kb (j + 1) = j + 1 /\ cf (j + 1) = 0 /\
    OpT P lim o { s with fr:=mini (ff j) l, M:=Mf j, nx:=nf j } (.val (vf j)) { s with fr:=mini (ff j) l, M:=Mf (j + 1), nx:=nf (j + 1) }))
section
variable {k r m:Nat} {vf:Nat -> VV} {ff:Nat -> Fr} {Mf:Nat -> Mem} {nf cf kb:Nat -> Nat} {mr ch:Nat -> Bool}
theorem StepQ.cases {j:Nat} (h:StepQ P lim ops s k m vf ff Mf nf cf kb mr ch j):nf j <= nf (j + 1) /\ ((ch j = false /\ kb (j + 1) = kb j /\ nf (j + 1) = nf j /\ Mf (j + 1) = Mf j /\ cf (j + 1) = cf j) ∨
  (mr j = true /\ ch j = false /\ kb (j + 1) = kb j /\ nf j < nf (j + 1) /\ nf (j + 1) < 16777215 /\ cf (j + 1) = Nat.lor (cf j) (Nat.shiftLeft 1 j)) ∨ (mr j = true /\ ch j = true /\ kb (j + 1) = j + 1 /\ cf (j + 1) = 0)):=by
 obtain ⟨o, l, _, _, _, _, _, _, hc⟩:=h
 rcases hc with ⟨_, _, _, h0, h1, h2, h3, h4⟩ | ⟨_, _, h0, h1, h2, h3, h4, _⟩ | ⟨_, h0, h1, h2, q, M'', _, hop, h⟩ | ⟨_, h0, h1, h2, h3, hop⟩
 ·
  exact ⟨Nat.le_of_eq h2.symm, .inl ⟨h0, h4, h2, h1, h3⟩⟩
 ·
  exact ⟨Nat.le_of_eq h2.symm, .inl ⟨h0, h4, h2, h1, h3⟩⟩
 ·
  refine ⟨hop.1, ?_⟩
  rcases h with h | ⟨h3, h4, h5, _⟩
  ·
   exact .inl ⟨h1, h2, h⟩
  ·
   exact .inr (.inl ⟨h0, h1, h2, h3, h4, h5⟩)
 ·
  exact ⟨hop.1, .inr (.inr ⟨h0, h1, h2, h3⟩)⟩
theorem zhx (hst:∀ j, k <= j -> j < k + r -> StepQ P lim ops s k (k + r) vf ff Mf nf cf kb mr ch j) (a:Nat) (ha:k <= a):∀ d, a + d <= k + r -> nf a <= nf (a + d)
 | 0, _=>Nat.le_refl _
 | d + 1, hd=>Nat.le_trans (zhx hst a ha d (by omega)) ((hst (a + d) (by omega) (by omega)).cases.1)
theorem kw (hst:∀ j, k <= j -> j < k + r -> StepQ P lim ops s k (k + r) vf ff Mf nf cf kb mr ch j) {a b:Nat} (ha:k <= a) (hab:a <= b) (hb:b <= k + r):nf a <= nf b:=by
 have:=zhx hst a ha (b - a) (by omega)
 rwa [show a + (b - a) = b from by omega] at this
structure Phase (k r:Nat) (cf kb:Nat -> Nat) (ch:Nat -> Bool) (b0 pe:Nat):Prop where
 h1:k <= b0
 h2:b0 <= pe
 h3:pe <= k + r
 no:∀ i, b0 <= i -> i < pe -> ch i = false
 next:pe = k + r ∨ ch pe = true
 kb0:kb b0 = b0
 cf0:cf b0 = 0
theorem Phase.bits {b0 pe:Nat} (h:Phase k r cf kb ch b0 pe) (hst:∀ j, k <= j -> j < k + r -> StepQ P lim ops s k (k + r) vf ff Mf nf cf kb mr ch j):∀ d, b0 + d <= pe -> kb (b0 + d) = b0 /\ ∀ d', d' < d -> nf (b0 + d') < nf (b0 + d' + 1) -> (cf (b0 + d)).testBit (b0 + d') = true
 | 0, _=>⟨h.kb0, fun d' hd'=>by omega⟩
 | d + 1, hd=>by
  obtain ⟨i1, i2⟩:=Phase.bits h hst d (by omega)
  have hno:=h.no (b0 + d) (by omega) (by omega)
  have hk:=h.h1
  have hk3:=h.h3
  have hs:=hst (b0 + d) (by omega) (by omega)
  rcases hs.cases.2 with ⟨_, c1, c2, _, c3⟩ | ⟨_, _, c1, c2, _, c3⟩ | ⟨_, c1, _⟩
  ·
   refine ⟨by rw [show b0 + (d + 1) = b0 + d + 1 from rfl, c1, i1], fun d' hd' hlt=>?_⟩
   rw [show b0 + (d + 1) = b0 + d + 1 from rfl, c3]
   by_cases e:d' = d
   ·
    subst e; omega
   ·
    exact i2 d' (by omega) hlt
  ·
   refine ⟨by rw [show b0 + (d + 1) = b0 + d + 1 from rfl, c1, i1], fun d' hd' hlt=>?_⟩
   rw [show b0 + (d + 1) = b0 + d + 1 from rfl, c3, zdr]
   by_cases e:d' = d
   ·
    subst e; simp
   ·
    rw [i2 d' (by omega) hlt]; rfl
  ·
   rw [hno] at c1; cases c1
def yV (k:Nat) (Mf:Nat -> Mem) (nf:Nat -> Nat) (L:Nat -> Bool):Nat -> Nat -> Option VO
 | 0, l=>if l < nf k then (Mf k).get l else none
 | d + 1, l=>if l < nf (k + d) then yV k Mf nf L d l else if l < nf (k + d + 1) then (if L (k + d) then (Mf (k + d + 1)).get l else none) else none
theorem ku {L:Nat -> Bool} {d l:Nat} (hm:∀ d', d' < d -> nf (k + d') <= nf (k + d' + 1)) (h:nf (k + d) <= l):yV k Mf nf L d l = none:=by
 cases d with
 | zero=>rw [yV, if_neg (by simpa using h)]
 | succ d=>
  have:=hm d (by omega)
  have h':nf (k + d + 1) <= l:=h
  rw [yV, if_neg (by omega), if_neg (by omega)]
theorem zht {L:Nat -> Bool} {d l:Nat} (hm:∀ d', d' < r -> nf (k + d') <= nf (k + d' + 1)):∀ e, d + e <= r -> l < nf (k + d) -> yV k Mf nf L (d + e) l = yV k Mf nf L d l
 | 0, _, _=>rfl
 | e + 1, h, hl=>by
  have h1:∀ e', d + e' <= r -> nf (k + d) <= nf (k + (d + e')):=fun e'=>by
   induction e' with
   | zero=>intro _; exact Nat.le_refl _
   | succ e' ih=>intro h; exact Nat.le_trans (ih (by omega)) (hm (d + e') (by omega))
  have h2:=h1 e (by omega)
  rw [show d + (e + 1) = (d + e) + 1 from rfl, yV, if_pos (by omega)]
  exact zht hm e (by omega) hl
theorem xu {L L':Nat -> Bool}:∀ d l, (∀ d', d' < d -> nf (k + d') < nf (k + d' + 1) -> L (k + d') = L' (k + d')) -> yV k Mf nf L d l = yV k Mf nf L' d l
 | 0, l, _=>rfl
 | d + 1, l, h=>by
  rw [yV, yV, xu d l (fun d' hd'=>h d' (by omega))]
  by_cases h1:l < nf (k + d)
  ·
   rw [if_pos h1, if_pos h1]
  ·
   rw [if_neg h1, if_neg h1]
   by_cases h2:l < nf (k + d + 1)
   ·
    rw [if_pos h2, if_pos h2, h d (by omega) (by omega)]
   ·
    rw [if_neg h2, if_neg h2]
theorem zn5 (hst:∀ j, k <= j -> j < k + r -> StepQ P lim ops s k (k + r) vf ff Mf nf cf kb mr ch j):∀ j, k <= j -> j <= k + r -> ∀ t x, (ff j).get t = some x -> (∃ w o, k <= w /\ w < j /\ ops[w]? = some o /\ o.dst = some t /\ x = vf w) ∨ ((∀ w o, k <= w -> w < j -> ops[w]? = some o -> o.dst ≠ some t) /\ (ff k).get t = some x):=by
 intro j
 induction j with
 | zero=>
  intro hk hj t x h
  have:k = 0:=by omega
  subst this
  exact .inr ⟨fun w o h1 h2=>by omega, h⟩
 | succ j ih=>
  intro hk hj t x h
  by_cases e:k = j + 1
  ·
   subst e
   exact .inr ⟨fun w o h1 h2=>by omega, h⟩
  ·
   have hkj:k <= j:=by omega
   have hjr:j < k + r:=by omega
   obtain ⟨o, l, ho, _, hd, hf, _⟩:=hst j hkj hjr
   rw [hf] at h
   have ih:=ih hkj (by omega)
   clear hst hk hj
   cases hdst:o.dst with
   | none=>
    rw [hdst] at h
    rcases ih t x h with ⟨w, o', h1, h2, h3⟩ | ⟨h1, h2⟩
    ·
     exact .inl ⟨w, o', h1, by omega, h3⟩
    ·
     refine .inr ⟨fun w o' a b c=>?_, h2⟩
     by_cases e2:w = j
     ·
      subst e2; rw [ho] at c; injection c with c; subst c; rw [hdst]; simp
     ·
      exact h1 w o' a (by omega) c
   | some d=>
    rw [hdst] at h hd
    simp only[zdS] at h
    simp only[xE, zLa] at hd
    have h2:=Oc.get_set _ _ _ _ _ (qH.1 hd.2) h
    by_cases e2:t = d
    ·
     rw [if_pos e2] at h2
     exact .inl ⟨j, o, hkj, Nat.lt_succ_self j, ho, by rw [hdst, e2], h2⟩
    ·
     rw [if_neg e2] at h2
     rcases ih t x h2 with ⟨w, o', h1, h2, h3⟩ | ⟨h1, h2⟩
     ·
      exact .inl ⟨w, o', h1, by omega, h3⟩
     ·
      refine .inr ⟨fun w o' a b c=>?_, h2⟩
      by_cases e3:w = j
      ·
       subst e3; rw [ho] at c; injection c with c; subst c; rw [hdst]; intro e4; injection e4 with e4; exact e2 e4.symm
      ·
       exact h1 w o' a (by omega) c
structure InvM (P:Program) (lim:Nat) (s:St) (k r:Nat) (Mf:Nat -> Mem) (nf cf kb:Nat -> Nat) (mr ch:Nat -> Bool) (B:Nat) (ρ0:Rho) (w0:World) (L:Nat -> Bool) (b0 pe:Nat) (Mc:Mem) (ρ:Rho) (w:World):Prop where
 ph:Phase k r cf kb ch b0 pe
 lo:∀ i, k <= i -> i < b0 -> mr i = true -> L i = true
 hi:∀ i, pe <= i -> i < k + r -> mr i = true -> L i = false
 get:∀ l, Mc.get l = yV b0 Mf nf L (pe - b0) l
 ref:∀ d, d <= pe - b0 -> (∀ d', d' < d -> nf (b0 + d') < nf (b0 + d' + 1) -> L (b0 + d') = true) -> ∀ l, (Mf (b0 + d)).get l = yV b0 Mf nf L d l
 fresh:∀ i l, k <= i -> i < k + r -> L i = false -> nf i <= l -> l < nf (i + 1) -> ρ l = none
 goes:Goes lim B s.nx (nf (k + r)) ρ0 ρ s.M Mc w0 w
 base:B <= w.heap.size
 mem:MRel B ρ Mc w
structure InvQ (P:Program) (lim:Nat) (ops:Array Oper) (s:St) (k r:Nat) (vf:Nat -> VV) (Mf:Nat -> Mem) (nf cf kb:Nat -> Nat) (mr ch:Nat -> Bool) (B n:Nat) (ρ0:Rho) (w0:World) (b:Frame) (cs0:List Frame)
  (L:Nat -> Bool) (b0 pe:Nat) (Mc:Mem) (ρ:Rho) (a:Act) (w:World) (cs:List Frame):Prop where
 down:zgL ops L
 old:∀ i, i < k -> L i = true
 beh:∀ i, k + r <= i -> L i = false
 m:InvM P lim s k r Mf nf cf kb mr ch B ρ0 w0 L b0 pe Mc ρ w
 size:a.tmps.size = n
 done:∀ i o d, k <= i -> i < k + r -> L i = true -> ops[i]? = some o -> o.dst = some d -> VRel ρ (vf i) (a.tmps.getD d undef)
 rest:∀ t x, (∀ i o, k <= i -> i < k + r -> L i = true -> ops[i]? = some o -> o.dst ≠ some t) -> s.fr.get t = some x -> VRel ρ x (a.tmps.getD t undef)
 dfs:DRelL ρ s.dfs a.defers
 up:UR ρ s.up b cs0 cs
 rnd:b.roundOf.isSome = s.rnd
 nn:s.n = n
 fid:b.fn = s.fid
end
end
end
end Go.Bv
end
section
namespace Go.Bv
open Go.RowKit
noncomputable section
theorem Goes.congrR {lim B nx nx':Nat} {ρ ρ':Rho} {M M' M2:Mem} {w w':World} (h:Goes lim B nx nx' ρ ρ' M M' w w') (he:∀ l, M'.get l = M2.get l):Goes lim B nx nx' ρ ρ' M M2 w w':=
 ⟨h.ext, h.le, h.below, h.unch, fun l hl=>by rw [← he]; exact h.old l hl, fun l h1 h2=>by rw [← he]; exact h.dead l h1 h2, fun l b o h1 h2 h3=>h.new l b o h1 (by rw [he]; exact h2) h3, fun hf l hl=>by rw [← he]; exact h.fin hf l hl⟩
theorem MRel.congr {B:Nat} {ρ:Rho} {M M2:Mem} {w:World} (h:MRel B ρ M w) (he:∀ l, M.get l = M2.get l):MRel B ρ M2 w:=
 ⟨fun l o hl=>h.obj l o (by rw [he]; exact hl), fun l l' o o' b b' h1 h2=>h.dist l l' o o' b b' (by rw [he]; exact h1) (by rw [he]; exact h2)⟩
def kM (L:Nat -> Bool) (j:Nat):Nat -> Bool:=fun i=>L i || decide (i = j)
theorem vK {L:Nat -> Bool} {j i:Nat}:kM L j i = true ↔ L i = true ∨ i = j:=by simp [kM]
theorem za5 {L:Nat -> Bool} {j i:Nat} (h:i ≠ j):kM L j i = L i:=by simp [kM, h]
section
variable {P:Program} {lim:Nat} {ops:Array Oper} {s s1 s':St} {e:XE}
variable {k r:Nat} {vf:Nat -> VV} {ff:Nat -> Fr} {Mf:Nat -> Mem} {nf cf kb:Nat -> Nat} {mr ch:Nat -> Bool}
theorem zcg {L:Nat -> Bool} {l:Nat} (hm:∀ d', d' < r -> nf (k + d') <= nf (k + d' + 1)):∀ d, d <= r -> (∀ d', d' < d -> nf (k + d') < nf (k + d' + 1) -> L (k + d') = false) -> yV k Mf nf L d l = if l < nf k then (Mf k).get l else none
 | 0, _, _=>rfl
 | d + 1, hd, h=>by
  have hk:nf k <= nf (k + d):=by
   have:∀ e, e <= d -> nf k <= nf (k + e):=fun e=>by
    induction e with
    | zero=>intro _; exact Nat.le_refl _
    | succ e ih=>intro he; exact Nat.le_trans (ih (by omega)) (hm e (by omega))
   exact this d (Nat.le_refl _)
  rw [yV, zcg hm d (by omega) (fun d' hd'=>h d' (by omega))]
  by_cases h1:l < nf k
  ·
   rw [if_pos h1, if_pos (by omega)]
  ·
   rw [if_neg h1]
   by_cases h2:l < nf (k + d)
   ·
    rw [if_pos h2]
   ·
    rw [if_neg h2]
    by_cases h3:l < nf (k + d + 1)
    ·
     rw [if_pos h3, h d (by omega) (by omega)]; simp
    ·
     rw [if_neg h3]
section
variable {B n:Nat} {ρ0:Rho} {w0:World} {b:Frame} {cs0:List Frame} {L:Nat -> Bool} {b0 pe:Nat} {Mc:Mem} {ρ:Rho} {a:Act} {w:World} {cs:List Frame}
theorem zkO {lim B nx:Nat} {ρ:Rho} {M:Mem} {w w':World} (hm:MRel B ρ M w) (hfin:∀ l, nx <= l -> M.get l = none) (hb:Below w.heap.size w w') (hB:B <= w.heap.size):Goes lim B nx nx ρ ρ M M w w' /\ MRel B ρ M w':=by
 obtain ⟨ρ', g, m, rfl⟩:Post lim B nx nx ρ M M w w' (fun ρ'=>ρ' = ρ):=zaU hm hfin hb hB rfl
 exact ⟨g, m⟩
theorem InvM.idle (h:InvM P lim s k r Mf nf cf kb mr ch B ρ0 w0 L b0 pe Mc ρ w) (hfin0:∀ l, s.nx <= l -> s.M.get l = none) {j:Nat} (hj:nf (j + 1) = nf j) (hmr:mr j = false) {w':World} (hb:Below w.heap.size w w'):InvM P lim s k r Mf nf cf kb mr ch B ρ0 w0 (kM L j) b0 pe Mc ρ w':=by
 have hL':∀ d', nf (b0 + d') < nf (b0 + d' + 1) -> kM L j (b0 + d') = L (b0 + d'):=fun d' hlt=>za5 (fun e=>by rw [e] at hlt; omega)
 obtain ⟨g, m⟩:=zkO (lim:=lim) h.mem (h.goes.fin hfin0) hb h.base
 refine ⟨h.ph, fun i h1 h2 h3=>vK.2 (.inl (h.lo i h1 h2 h3)), fun i h1 h2 h3=>?_, fun l=>?_, fun d hd hc l=>?_, fun i l h1 h2 hLi h3 h4=>?_, h.goes.trans g, Nat.le_trans h.base hb.size, m⟩
 ·
  rw [za5 (fun e=>by rw [e, hmr] at h3; cases h3)]; exact h.hi i h1 h2 h3
 ·
  rw [h.get l]; exact xu _ l (fun d' _ hlt=>(hL' d' hlt).symm)
 ·
  rw [h.ref d hd (fun d' hd' hlt=>by rw [← hL' d' hlt]; exact hc d' hd' hlt) l]
  exact xu d l (fun d' _ hlt=>(hL' d' hlt).symm)
 ·
  by_cases e:i = j
  ·
   subst e; omega
  ·
   rw [za5 e] at hLi; exact h.fresh i l h1 h2 hLi h3 h4
theorem InvM.finds (h:InvM P lim s k r Mf nf cf kb mr ch B ρ0 w0 L b0 pe Mc ρ w) (hst:∀ j, k <= j -> j < k + r -> StepQ P lim ops s k (k + r) vf ff Mf nf cf kb mr ch j) {dj:Nat} (hdj:b0 + dj <= pe) {q:Bool}
  (made:q = true -> ∀ d', d' < dj -> nf (b0 + d') < nf (b0 + d' + 1) -> L (b0 + d') = true):
  (∀ l' o', (bif q then Mf (b0 + dj) else Mf b0).get l' = some o' -> Mc.get l' = some o') /\ ∀ l', nf (b0 + dj) <= l' -> (bif q then Mf (b0 + dj) else Mf b0).get l' = none:=by
 have hk1:=h.ph.h1
 have hk3:=h.ph.h3
 have hmon:∀ d', d' < pe - b0 -> nf (b0 + d') <= nf (b0 + d' + 1):=fun d' hd=>(hst (b0 + d') (by omega) (by omega)).cases.1
 have base:(∀ l' o', (Mf b0).get l' = some o' -> Mc.get l' = some o') /\ ∀ l', nf b0 <= l' -> (Mf b0).get l' = none:=by
  have h0:=h.ref 0 (by omega) (fun d' hd'=>by omega)
  simp only[Nat.add_zero] at h0
  refine ⟨fun l' o' hl'=>?_, fun l' hl'=>by rw [h0 l', yV, if_neg (by omega)]⟩
  rw [h0 l'] at hl'
  rw [h.get l']
  have hlt:l' < nf b0:=by
   rcases Nat.lt_or_ge l' (nf b0) with c | c
   ·
    exact c
   ·
    rw [yV, if_neg (by omega)] at hl'; cases hl'
  have:=zht (k:=b0) (Mf:=Mf) (L:=L) (d:=0) (r:=pe - b0) (l:=l') hmon (pe - b0) (by omega) hlt
  rw [Nat.zero_add] at this
  rw [this]; exact hl'
 cases q with
 | false=>
  refine ⟨base.1, fun l' hl'=>base.2 l' ?_⟩
  exact Nat.le_trans (kw hst hk1 (by omega) (by omega)) hl'
 | true=>
  have h0:=h.ref dj (by omega) (made rfl)
  refine ⟨fun l' o' hl'=>?_, fun l' hl'=>?_⟩
  ·
   simp only[cond_true] at hl'
   rw [h0 l'] at hl'
   rw [h.get l']
   have hlt:l' < nf (b0 + dj):=by
    rcases Nat.lt_or_ge l' (nf (b0 + dj)) with c | c
    ·
     exact c
    ·
     rw [ku (fun d' hd'=>hmon d' (by omega)) c] at hl'; cases hl'
   have:=zht (k:=b0) (Mf:=Mf) (L:=L) (d:=dj) (r:=pe - b0) (l:=l') hmon (pe - b0 - dj) (by omega) hlt
   rw [show dj + (pe - b0 - dj) = pe - b0 from by omega] at this
   rw [this]; exact hl'
  ·
   simp only[cond_true]
   rw [h0 l']; exact ku (fun d' hd'=>hmon d' (by omega)) hl'
theorem InvM.quiet (h : InvM P lim s k r Mf nf cf kb mr ch B ρ0 w0 L b0 pe Mc ρ w) (hst : ∀ j, k <= j -> j < k + r -> StepQ P lim ops s k (k + r) vf ff Mf nf cf kb mr ch j) (hdown : zgL ops L) (hnk : nf k = s.nx) (hlim : lim <= s.nx)
    {dj:Nat} {o:Oper} (hj:b0 + dj < pe) (ho:ops[b0 + dj]? = some o) (hL:L (b0 + dj) = false)
    {q:Bool} {M'':Mem} {Mq:Mem} (hMe:(bif q then Mf (b0 + dj) else Mf b0) = Mq)
    (hM:(nf (b0 + dj + 1) = nf (b0 + dj) /\ Mf (b0 + dj + 1) = Mf (b0 + dj) /\ cf (b0 + dj + 1) = cf (b0 + dj)) ∨
     (nf (b0 + dj) < nf (b0 + dj + 1) /\ nf (b0 + dj + 1) < 16777215 /\ cf (b0 + dj + 1) = Nat.lor (cf (b0 + dj)) (Nat.shiftLeft 1 (b0 + dj)) /\ ((q = true /\ Mf (b0 + dj + 1) = M'') ∨ Mf (b0 + dj + 1) = zbJ (Mf (b0 + dj)) M'' (nf (b0 + dj)) (nf (b0 + dj + 1) - nf (b0 + dj)))))
    {ρ':Rho} {w':World} (g:Goes (nf (b0 + dj)) B (nf (b0 + dj)) (nf (b0 + dj + 1)) ρ ρ' Mq M'' w w') (hfin2:∀ l', nf (b0 + dj + 1) <= l' -> M''.get l' = none) (rm:MRel B ρ' M'' w'):
    ∃ Mc', InvM P lim s k r Mf nf cf kb mr ch B ρ0 w0 (kM L (b0 + dj)) b0 pe Mc' ρ' w':=by
  have hk1:=h.ph.h1
  have hk3:=h.ph.h3
  have hjle:=(hst (b0 + dj) (by omega) (by omega)).cases.1
  have hmon:∀ d', d' < pe - b0 -> nf (b0 + d') <= nf (b0 + d' + 1):=fun d' hd=>(hst (b0 + d') (by omega) (by omega)).cases.1
  have hne:∀ i, i ≠ b0 + dj -> kM L (b0 + dj) i = L i:=fun i hi=>za5 hi
  have hfresh:Fresh ρ (nf (b0 + dj)) (nf (b0 + dj + 1)):=fun l' h1 h2=>h.fresh (b0 + dj) l' (by omega) (by omega) hL h1 h2
  have hx:zam ρ ρ':=g.rext hfresh
  have hρo:∀ l', ¬ (nf (b0 + dj) <= l' /\ l' < nf (b0 + dj + 1)) -> ρ' l' = ρ l':=fun l' hl'=>g.ext l' (by omega)
  have hun:∀ g', g' < w.heap.size -> w'.heap[g']? = w.heap[g']?:=fun g' hg'=>g.unch g' hg' (fun l' b' o' h1 h2=>absurd (Nat.lt_of_le_of_lt h1 h2) (Nat.lt_irrefl _))
  have hold2:∀ l', l' < nf (b0 + dj) -> M''.get l' = Mq.get l':=fun l' hl'=>g.old l' hl'
  have hbound:nf (b0 + dj + 1) <= nf (b0 + dj) ∨ nf (b0 + dj + 1) < 16777215:=by
    rcases hM with ⟨c, _⟩ | ⟨_, c, _⟩
    · exact .inl (Nat.le_of_eq c)
    · exact .inr c
  obtain ⟨Mc', hMc'⟩:∃ Mc':Mem, ∀ l', Mc'.get l' = if nf (b0 + dj) <= l' /\ l' < nf (b0 + dj + 1) then M''.get l' else Mc.get l':=by
    rcases hbound with c | c
    · exact ⟨Mc, fun l'=>by rw [if_neg (by omega)]⟩
    · refine ⟨zbJ Mc M'' (nf (b0 + dj)) (nf (b0 + dj + 1) - nf (b0 + dj)), fun l'=>?_⟩
      have e:nf (b0 + dj) + (nf (b0 + dj + 1) - nf (b0 + dj)) = nf (b0 + dj + 1):=by omega
      rw [yD _ _ _ _ _ (by rw [e]; exact Nat.le_of_lt c), e]
  have hnew:∀ l', nf (b0 + dj) <= l' -> l' < nf (b0 + dj + 1) -> (Mf (b0 + dj + 1)).get l' = M''.get l':=fun l' h1 h2=>by
    rcases hM with ⟨c, _, _⟩ | ⟨_, c, _, hM⟩
    · omega
    · rcases hM with ⟨_, hM⟩ | hM
      · rw [hM]
      · have e:nf (b0 + dj) + (nf (b0 + dj + 1) - nf (b0 + dj)) = nf (b0 + dj + 1):=by omega
        rw [hM, yD _ _ _ _ _ (by rw [e]; exact Nat.le_of_lt c), e, if_pos ⟨h1, h2⟩]
  have hget:∀ l', Mc'.get l' = yV b0 Mf nf (kM L (b0 + dj)) (pe - b0) l':=fun l'=>by
    rw [hMc' l']
    have key:∀ d, d <= pe - b0 -> yV b0 Mf nf (kM L (b0 + dj)) d l' = if nf (b0 + dj) <= l' /\ l' < nf (b0 + dj + 1) /\ dj < d then M''.get l' else yV b0 Mf nf L d l':=by
      intro d
      induction d with
      | zero=>intro _; rw [if_neg (by omega)]; rfl
      | succ d ih=>
        intro hd
        have ih:=ih (by omega)
        have hm:=hmon d (by omega)
        rw [yV, yV]
        by_cases c1:l' < nf (b0 + d)
        · rw [if_pos c1, if_pos c1, ih]
          by_cases c2:nf (b0 + dj) <= l' /\ l' < nf (b0 + dj + 1)
          · by_cases c3:dj < d
            · rw [if_pos ⟨c2.1, c2.2, c3⟩, if_pos ⟨c2.1, c2.2, by omega⟩]
            · have:nf (b0 + d) <= nf (b0 + dj):=kw hst (by omega) (by omega) (by omega)
              omega
          · rw [if_neg (fun c=>c2 ⟨c.1, c.2.1⟩), if_neg (fun c=>c2 ⟨c.1, c.2.1⟩)]
        · rw [if_neg c1, if_neg c1]
          by_cases c2:l' < nf (b0 + d + 1)
          · rw [if_pos c2, if_pos c2]
            by_cases c3:d = dj
            · subst c3
              rw [if_pos (vK.2 (.inr rfl)), if_pos ⟨by omega, c2, by omega⟩]
              exact hnew l' (by omega) c2
            · rw [hne (b0 + d) (by omega)]
              rw [if_neg (c:=nf (b0 + dj) <= l' /\ l' < nf (b0 + dj + 1) /\ dj < d + 1)]
              intro c
              have:nf (b0 + dj + 1) <= nf (b0 + d):=kw hst (by omega) (by omega) (by omega)
              omega
          · rw [if_neg c2, if_neg c2]
            rw [if_neg]
            intro c
            have:nf (b0 + dj + 1) <= nf (b0 + d + 1):=kw hst (by omega) (by omega) (by omega)
            omega
    rw [key (pe - b0) (Nat.le_refl _)]
    by_cases c:nf (b0 + dj) <= l' /\ l' < nf (b0 + dj + 1)
    · rw [if_pos c, if_pos ⟨c.1, c.2, by omega⟩]
    · rw [if_neg c, if_neg (fun c2=>c ⟨c2.1, c2.2.1⟩), h.get l']
  have hnj:=kw hst (Nat.le_refl k) (b:=b0 + dj) (by omega) (by omega)
  have hnr:=kw hst (a:=b0 + dj + 1) (b:=k + r) (by omega) (by omega) (Nat.le_refl _)
  refine ⟨Mc', ⟨h.ph, fun i h1 h2 h3=>vK.2 (.inl (h.lo i h1 h2 h3)), fun i h1 h2 h3=>by rw [hne i (by omega)]; exact h.hi i h1 h2 h3, hget, ?_, ?_, ?_, Nat.le_trans h.base g.below.size, ?_⟩⟩
  · -- the text's memories
    intro d
    induction d with
    | zero=>
      intro _ _ l'
      have h0:=h.ref 0 (by omega) (fun d' hd'=>by omega) l'
      rw [h0]; rfl
    | succ d ih=>
      intro hd hc l'
      have ih:=ih (by omega) (fun d' hd' hlt=>hc d' (by omega) hlt)
      have hm:=hmon d (by omega)
      by_cases e:d = dj
      · subst e
        rw [yV]
        rcases hM with ⟨c1, c2, c3⟩ | ⟨c0, c1, c2, hM⟩
        · rw [show b0 + (d + 1) = b0 + d + 1 from rfl, c2, ih l']
          by_cases c:l' < nf (b0 + d)
          · rw [if_pos c]
          · rw [if_neg c, if_neg (by omega)]
            exact ku (fun d' hd'=>hmon d' (by omega)) (by omega)
        · rw [if_pos (vK.2 (.inr rfl))]
          by_cases c:l' < nf (b0 + d)
          · rw [if_pos c, ← ih l']
            rcases hM with ⟨hq1, hM⟩ | hM
            · rw [show b0 + (d + 1) = b0 + d + 1 from rfl, hM, hold2 l' c, ← hMe, hq1]; rfl
            · have e:nf (b0 + d) + (nf (b0 + d + 1) - nf (b0 + d)) = nf (b0 + d + 1):=by omega
              rw [show b0 + (d + 1) = b0 + d + 1 from rfl, hM, yD _ _ _ _ _ (by rw [e]; exact Nat.le_of_lt c1), e, if_neg (by omega)]
          · rw [if_neg c]
            by_cases c4:l' < nf (b0 + d + 1)
            · rw [if_pos c4]; rfl
            · rw [if_neg c4]
              rcases hM with ⟨hq1, hM⟩ | hM
              · rw [show b0 + (d + 1) = b0 + d + 1 from rfl, hM]; exact hfin2 l' (by omega)
              · have e:nf (b0 + d) + (nf (b0 + d + 1) - nf (b0 + d)) = nf (b0 + d + 1):=by omega
                rw [show b0 + (d + 1) = b0 + d + 1 from rfl, hM, yD _ _ _ _ _ (by rw [e]; exact Nat.le_of_lt c1), e, if_neg (by omega), ih l']
                exact ku (fun d' hd'=>hmon d' (by omega)) (by omega)
      · rcases Nat.lt_or_ge d dj with c | c
        · rw [h.ref (d + 1) (by omega) (fun d' hd' hlt=>by rw [← hne (b0 + d') (by omega)]; exact hc d' hd' hlt) l']
          exact xu (d + 1) l' (fun d' hd' _=>(hne (b0 + d') (by omega)).symm)
        · -- behind it in the text
          have same:nf (b0 + d + 1) = nf (b0 + d) -> Mf (b0 + d + 1) = Mf (b0 + d) -> (Mf (b0 + (d + 1))).get l' = yV b0 Mf nf (kM L (b0 + dj)) (d + 1) l':=fun c1 c2=>by
            rw [yV, show b0 + (d + 1) = b0 + d + 1 from rfl, c2, ih l']
            by_cases c3:l' < nf (b0 + d)
            · rw [if_pos c3]
            · rw [if_neg c3, if_neg (by omega)]
              exact ku (fun d' hd'=>hmon d' (by omega)) (by omega)
          by_cases hjm:nf (b0 + dj) < nf (b0 + dj + 1)
          · obtain ⟨o2, l2, x1, _, _, _, _, _, hcase2⟩:=hst (b0 + d) (by omega) (by omega)
            have hno:=h.ph.no (b0 + d) (by omega) (by omega)
            rcases hcase2 with ⟨_, _, _, _, c2, c1, _⟩ | ⟨_, _, _, c2, c1, _⟩ | ⟨_, _, _, _, q2, M2, hq2, _, hM2⟩ | ⟨_, _, c1, _⟩
            · exact same c1 c2
            · exact same c1 c2
            · rcases hM2 with ⟨c1, c2, _⟩ | ⟨c0, c1, c2, hM2⟩
              · exact same c1 c2
              · have hLd:kM L (b0 + dj) (b0 + d) = true:=hc d (by omega) c0
                have hLd':L (b0 + d) = true:=by rw [← hne (b0 + d) (by omega)]; exact hLd
                rcases hM2 with ⟨hq3, hM2⟩ | hM2
                · -- a full one has all that makes memory before it
                  have hbit:=(h.ph.bits hst d (by omega)).2 dj (by omega) hjm
                  have:=yF hdown (b0 + d) o2 x1 (hdown (b0 + d) o2 x1 hLd') (b0 + dj) (hq2 hq3 _ hbit)
                  rw [hL] at this; cases this
                · rw [yV, show b0 + (d + 1) = b0 + d + 1 from rfl]
                  have e:nf (b0 + d) + (nf (b0 + d + 1) - nf (b0 + d)) = nf (b0 + d + 1):=by omega
                  by_cases c3:l' < nf (b0 + d)
                  · rw [if_pos c3, hM2, yD _ _ _ _ _ (by rw [e]; exact Nat.le_of_lt c1), e, if_neg (by omega)]; exact ih l'
                  · rw [if_neg c3]
                    by_cases c4:l' < nf (b0 + d + 1)
                    · rw [if_pos c4, if_pos hLd]
                    · rw [if_neg c4, hM2, yD _ _ _ _ _ (by rw [e]; exact Nat.le_of_lt c1), e, if_neg (by omega), ih l']
                      exact ku (fun d' hd'=>hmon d' (by omega)) (by omega)
            · rw [hno] at c1; cases c1
          · have hL' : ∀ d', nf (b0 + d') < nf (b0 + d' + 1) -> kM L (b0 + dj) (b0 + d') = L (b0 + d') := fun d' hlt => hne _ (fun e => by
              have:d' = dj:=by omega
              subst this; omega)
            rw [h.ref (d + 1) hd (fun d' hd' hlt=>by rw [← hL' d' hlt]; exact hc d' hd' hlt) l']
            exact xu (d + 1) l' (fun d' _ hlt=>(hL' d' hlt).symm)
  · -- what is not made yet
    intro i l' hi1 hi2 hLi h1 h2
    have hne2:i ≠ b0 + dj:=fun e=>by subst e; rw [vK.2 (.inr rfl)] at hLi; cases hLi
    rw [hne i hne2] at hLi
    have hout:¬ (nf (b0 + dj) <= l' /\ l' < nf (b0 + dj + 1)):=fun c=>by
      rcases Nat.lt_or_ge i (b0 + dj) with c2 | c2
      · have:nf (i + 1) <= nf (b0 + dj):=kw hst (by omega) (by omega) (by omega)
        omega
      · have:nf (b0 + dj + 1) <= nf i:=kw hst (by omega) (by omega) (by omega)
        omega
    rw [hρo l' hout]
    exact h.fresh i l' hi1 hi2 hLi h1 h2
  · -- what has turned since
    refine ⟨fun l' hl'=>?_, h.goes.le, h.goes.below.trans g.below, fun g' hg' hno=>?_, fun l' hl'=>?_, fun l' h1 h2=>?_, fun l' b' o' h1 h2 h3=>?_, fun hfin0 l' hl'=>?_⟩
    · rw [hρo l' (by omega), h.goes.ext l' hl']
    · rw [hun g' (Nat.lt_of_lt_of_le hg' h.goes.below.size), h.goes.unch g' hg' hno]
    · rw [hMc' l', if_neg (by omega), h.goes.old l' hl']
    · rw [hMc' l', if_neg (by omega)]; exact h.goes.dead l' h1 h2
    · rw [hMc' l'] at h2
      by_cases c:nf (b0 + dj) <= l' /\ l' < nf (b0 + dj + 1)
      · rw [if_pos c] at h2
        rcases g.new l' b' o' c.1 h2 h3 with c1 | ⟨l0, b0', o0, a1, a2, _⟩
        · exact .inl (Nat.le_trans h.goes.below.size c1)
        · exact absurd (Nat.lt_of_le_of_lt a1 a2) (Nat.lt_irrefl _)
      · rw [if_neg c] at h2
        rw [hρo l' c] at h3
        exact h.goes.new l' b' o' h1 h2 h3
    · rw [hMc' l', if_neg (by omega)]; exact h.goes.fin hfin0 l' hl'
  · -- all that lies
    have keep:∀ l' o', Mc.get l' = some o' -> ¬ (nf (b0 + dj) <= l' /\ l' < nf (b0 + dj + 1)) -> ∃ b', ρ' l' = some b' /\ B <= b'.blk /\ b'.blk < w.heap.size /\ ORel ρ' o' b' w':=fun l' o' hl' c=>by
      obtain ⟨b', a1, a2, a3⟩:=h.mem.obj l' o' hl'
      exact ⟨b', hx _ _ a1, a2, a3.lt, a3.keep hx (hun _ a3.lt)⟩
    have new:∀ l' o' b', M''.get l' = some o' -> nf (b0 + dj) <= l' -> ρ' l' = some b' -> w.heap.size <= b'.blk:=fun l' o' b' hl' c hb'=>by
      rcases g.new l' b' o' c hl' hb' with c1 | ⟨l0, b0', o0, a1, a2, _⟩
      · exact c1
      · exact absurd (Nat.lt_of_le_of_lt a1 a2) (Nat.lt_irrefl _)
    refine ⟨fun l' o' hl'=>?_, fun l1 l2 o1 o2 b1 b2 x1 x2 y1 y2 z z2=>?_⟩
    · rw [hMc' l'] at hl'
      by_cases c:nf (b0 + dj) <= l' /\ l' < nf (b0 + dj + 1)
      · rw [if_pos c] at hl'; exact rm.obj l' o' hl'
      · rw [if_neg c] at hl'
        obtain ⟨b', a1, a2, _, a3⟩:=keep l' o' hl' c
        exact ⟨b', a1, a2, a3⟩
    · rw [hMc' l1] at x1
      rw [hMc' l2] at x2
      by_cases c1:nf (b0 + dj) <= l1 /\ l1 < nf (b0 + dj + 1) <;> by_cases c2:nf (b0 + dj) <= l2 /\ l2 < nf (b0 + dj + 1)
      · rw [if_pos c1] at x1
        rw [if_pos c2] at x2
        exact rm.dist l1 l2 o1 o2 b1 b2 x1 x2 y1 y2 z z2
      · rw [if_pos c1] at x1
        rw [if_neg c2] at x2
        obtain ⟨b', a1, _, a3, _⟩:=keep l2 o2 x2 c2
        rw [y2] at a1; injection a1 with a1; subst a1
        have:=new l1 o1 b1 x1 c1.1 y1
        omega
      · rw [if_neg c1] at x1
        rw [if_pos c2] at x2
        obtain ⟨b', a1, _, a3, _⟩:=keep l1 o1 x1 c1
        rw [y1] at a1; injection a1 with a1; subst a1
        have:=new l2 o2 b2 x2 c2.1 y2
        omega
      · rw [if_neg c1] at x1
        rw [if_neg c2] at x2
        rw [hρo l1 c1] at y1
        rw [hρo l2 c2] at y2
        exact h.mem.dist l1 l2 o1 o2 b1 b2 x1 x2 y1 y2 z z2
theorem InvM.change (h:InvM P lim s k r Mf nf cf kb mr ch B ρ0 w0 L b0 pe Mc ρ w) (hst:∀ j, k <= j -> j < k + r -> StepQ P lim ops s k (k + r) vf ff Mf nf cf kb mr ch j) (hnk:nf k = s.nx) (hlim:lim <= s.nx) (hf:Fresh ρ0 s.nx (nf (k + r)))
  (hpe:pe < k + r) (hch:ch pe = true) (hmr:∀ j, ch j = true -> mr j = true) (hall:∀ i, k <= i -> i < pe -> mr i = true -> L i = true) (hkb:kb (pe + 1) = pe + 1) (hcf:cf (pe + 1) = 0):
  (∀ l, Mc.get l = (Mf pe).get l) /\ Fresh ρ (nf pe) (nf (pe + 1)) /\ (∀ l, nf pe <= l -> (Mf pe).get l = none) /\ ∀ (ρ':Rho) (w':World), Goes lim B (nf pe) (nf (pe + 1)) ρ ρ' (Mf pe) (Mf (pe + 1)) w w' -> (∀ l, nf (pe + 1) <= l -> (Mf (pe + 1)).get l = none) -> MRel B ρ' (Mf (pe + 1)) w' ->
   ∃ pe', InvM P lim s k r Mf nf cf kb mr ch B ρ0 w0 (kM L pe) (pe + 1) pe' (Mf (pe + 1)) ρ' w':=by
 have hk1:=h.ph.h1
 have hk2:=h.ph.h2
 have hk3:=h.ph.h3
 have hmon:∀ d', d' < pe - b0 -> nf (b0 + d') <= nf (b0 + d' + 1):=fun d' hd=>(hst (b0 + d') (by omega) (by omega)).cases.1
 have creator:∀ i, k <= i -> i < k + r -> nf i < nf (i + 1) -> mr i = true:=fun i h1 h2 h3=>by
  rcases (hst i h1 h2).cases.2 with ⟨_, _, c, _⟩ | ⟨c, _⟩ | ⟨c, _⟩
  ·
   omega
  ·
   exact c
  ·
   exact c
 have hp:=h.ref (pe - b0) (Nat.le_refl _) (fun d' hd' hlt=>hall _ (by omega) (by omega) (creator _ (by omega) (by omega) hlt))
 rw [show b0 + (pe - b0) = pe from by omega] at hp
 have he:∀ l, Mc.get l = (Mf pe).get l:=fun l=>by rw [h.get l, hp l]
 have hfin:∀ l, nf pe <= l -> (Mf pe).get l = none:=fun l hl=>by
  rw [hp l]
  exact ku hmon (by rw [show b0 + (pe - b0) = pe from by omega]; exact hl)
 have hLpe:∀ i, pe <= i -> i < k + r -> nf i < nf (i + 1) -> L i = false:=fun i h1 h2 h3=>h.hi i h1 h2 (creator i (by omega) h2 h3)
 have hfr:∀ l, nf pe <= l -> l < nf (k + r) -> ρ l = none:=fun l h1 h2=>by
  have:∀ d, pe + d <= k + r -> l < nf (pe + d) -> ρ l = none:=fun d=>by
   induction d with
   | zero=>intro _ h3; simp only[Nat.add_zero] at h3; omega
   | succ d ih=>
    intro h3 h4
    by_cases c:l < nf (pe + d)
    ·
     exact ih (by omega) c
    ·
     exact h.fresh (pe + d) l (by omega) (by omega) (hLpe _ (by omega) (by omega) (by rw [show pe + d + 1 = pe + (d + 1) from rfl]; omega)) (by omega) h4
  exact this (k + r - pe) (by omega) (by rw [show pe + (k + r - pe) = k + r from by omega]; exact h2)
 have hn1:=kw hst (Nat.le_refl k) (b:=pe) (by omega) (by omega)
 have hn2:=kw hst (a:=pe + 1) (b:=k + r) (by omega) (by omega) (Nat.le_refl _)
 have hn3:=kw hst (a:=pe) (b:=pe + 1) (by omega) (by omega) (by omega)
 refine ⟨he, fun l h1 h2=>hfr l h1 (by omega), hfin, fun ρ' w' g hfin2 rm=>?_⟩
 -- where the next one is
 obtain ⟨pe', h1, h2, h3, h4⟩:∃ pe', pe + 1 <= pe' /\ pe' <= k + r /\ (∀ i, pe + 1 <= i -> i < pe' -> ch i = false) /\ (pe' = k + r ∨ ch pe' = true):=by
  have:∀ d, pe + 1 + d <= k + r -> (∀ i, pe + 1 <= i -> i < pe + 1 + d -> ch i = false) ∨ ∃ pe', pe + 1 <= pe' /\ pe' < pe + 1 + d /\ (∀ i, pe + 1 <= i -> i < pe' -> ch i = false) /\ ch pe' = true:=fun d=>by
   induction d with
   | zero=>intro _; exact .inl (fun i h1 h2=>by omega)
   | succ d ih=>
    intro hd
    rcases ih (by omega) with c | ⟨p, c1, c2, c3⟩
    ·
     cases hc:ch (pe + 1 + d) with
     | true=>exact .inr ⟨pe + 1 + d, by omega, by omega, c, hc⟩
     | false=>
      refine .inl (fun i h1 h2=>?_)
      by_cases e:i = pe + 1 + d
      ·
       rw [e]; exact hc
      ·
       exact c i h1 (by omega)
    ·
     exact .inr ⟨p, c1, by omega, c3⟩
  rcases this (k + r - (pe + 1)) (by omega) with c | ⟨p, c1, c2, c3, c4⟩
  ·
   exact ⟨k + r, by omega, Nat.le_refl _, fun i h1 h2=>c i h1 (by omega), .inl rfl⟩
  ·
   exact ⟨p, c1, by omega, c3, .inr c4⟩
 have hmon2:∀ d', d' < pe' - (pe + 1) -> nf (pe + 1 + d') <= nf (pe + 1 + d' + 1):=fun d' hd=>(hst (pe + 1 + d') (by omega) (by omega)).cases.1
 have hnoL:∀ d', d' < pe' - (pe + 1) -> nf (pe + 1 + d') < nf (pe + 1 + d' + 1) -> kM L pe (pe + 1 + d') = false:=fun d' hd hlt=>by
  rw [za5 (by omega)]; exact hLpe _ (by omega) (by omega) hlt
 have g1:Goes lim B s.nx (nf pe) ρ0 ρ s.M (Mf pe) w0 w:=by
  have g0:=h.goes.congrR he
  exact ⟨fun l hl=>by
   rcases hl with hl | hl
   ·
    exact g0.ext l (.inl hl)
   ·
    rcases Nat.lt_or_ge l (nf (k + r)) with c | c
    ·
     rw [hfr l hl c, hf l (by omega) c]
    ·
     exact g0.ext l (.inr c), by omega, g0.below, g0.unch, g0.old, g0.dead, g0.new, fun _ l hl=>hfin l hl⟩
 have g2:=g1.trans g
 refine ⟨pe', ⟨⟨by omega, h1, h2, h3, h4, hkb, hcf⟩, fun i c1 c2 c3=>?_, fun i c1 c2 c3=>?_, fun l=>?_, fun d hd hc l=>?_, fun i l c1 c2 c3 c4 c5=>?_, ?_, Nat.le_trans h.base g.below.size, rm⟩⟩
 ·
  rw [vK]
  by_cases e:i = pe
  ·
   exact .inr e
  ·
   exact .inl (hall i c1 (by omega) c3)
 ·
  rw [za5 (by omega)]; exact h.hi i (by omega) c2 c3
 ·
  rw [zcg (r:=pe' - (pe + 1)) hmon2 _ (Nat.le_refl _) hnoL]
  by_cases c:l < nf (pe + 1)
  ·
   rw [if_pos c]
  ·
   rw [if_neg c]; exact hfin2 l (by omega)
 ·
  rw [zcg (r:=pe' - (pe + 1)) hmon2 d hd (fun d' hd' hlt=>hnoL d' (by omega) hlt)]
  have:∀ d', d' <= d -> Mf (pe + 1 + d') = Mf (pe + 1):=fun d'=>by
   induction d' with
   | zero=>intro _; rfl
   | succ d' ih=>
    intro hd'
    rcases (hst (pe + 1 + d') (by omega) (by omega)).cases.2 with ⟨_, _, _, c, _⟩ | ⟨_, _, _, c, _⟩ | ⟨_, c, _⟩
    ·
     rw [show pe + 1 + (d' + 1) = pe + 1 + d' + 1 from rfl, c, ih (by omega)]
    ·
     have h8:=hc d' (by omega) c
     rw [hnoL d' (by omega) c] at h8; cases h8
    ·
     rw [h3 (pe + 1 + d') (by omega) (by omega)] at c; cases c
  rw [this d (Nat.le_refl _)]
  by_cases c:l < nf (pe + 1)
  ·
   rw [if_pos c]
  ·
   rw [if_neg c]; exact hfin2 l (by omega)
 ·
  have hne:i ≠ pe:=fun e=>by subst e; rw [vK.2 (.inr rfl)] at c3; cases c3
  rw [za5 hne] at c3
  rw [g.ext l]
  ·
   exact h.fresh i l c1 c2 c3 c4 c5
  ·
   rcases Nat.lt_or_ge i pe with c | c
   ·
    have:nf (i + 1) <= nf pe:=kw hst (by omega) (by omega) (by omega)
    exact .inl (by omega)
   ·
    have:nf (pe + 1) <= nf i:=kw hst (by omega) (by omega) (by omega)
    exact .inr (by omega)
 ·
  exact ⟨fun l hl=>g2.ext l (by omega), by omega, g2.below, g2.unch, g2.old, g2.dead, g2.new, fun hfin0 l hl=>g2.fin hfin0 l (by omega)⟩
end
end
end
end Go.Bv
end
section
namespace Go.Bv
open Go.RowKit
noncomputable section
section
variable {P:Program} {lim:Nat} {ops:Array Oper} {s s1 s':St} {e:XE}
variable {k r:Nat} {vf:Nat -> VV} {ff:Nat -> Fr} {Mf:Nat -> Mem} {nf cf kb:Nat -> Nat} {mr ch:Nat -> Bool}
section
variable {B n:Nat} {ρ0:Rho} {w0:World} {b:Frame} {cs0:List Frame} {L:Nat -> Bool} {b0 pe:Nat} {Mc:Mem} {ρ:Rho} {a:Act} {w:World} {cs:List Frame}
theorem InvQ.mini (h:InvQ P lim ops s k r vf Mf nf cf kb mr ch B n ρ0 w0 b cs0 L b0 pe Mc ρ a w cs) (hst:∀ j, k <= j -> j < k + r -> StepQ P lim ops s k (k + r) vf ff Mf nf cf kb mr ch j) (hu:upB ops = true) (hff:ff k = s.fr)
  {j:Nat} {o:Oper} {l:List Tmp} (hk:k <= j) (hj:j < k + r) (ho:ops[j]? = some o) (hl:ze7 ops j l = true) (hL:L j = false) (hanc:∀ e ∈ o.after.toList, Region.binds .any e = true -> L e.on = true):FrRel ρ n (mini (ff j) l) a.tmps:=by
 refine ⟨h.size, fun t x hx=>?_⟩
 rcases zeQ hx with rfl | ⟨ht, hx⟩
 ·
  simp [VRel]
 ·
  rcases zn5 hst j hk (Nat.le_of_lt hj) t x hx with ⟨w', o', h1, h2, h3, h4, rfl⟩ | ⟨h1, h2⟩
  ·
   rcases zfv hl ht h3 h4 (by omega) with h5 | h5
   ·
    have h6:=yF h.down j o ho hanc w' h5
    exact h.done w' o' t h1 (by omega) h6 h3 h4
   ·
    have:=zlp hu h5; omega
  ·
   rw [hff] at h2
   refine h.rest t x (fun i o' a1 a2 a3 a4 a5=>?_) h2
   rcases Nat.lt_or_ge i j with h6 | h6
   ·
    exact h1 i o' a1 h6 a4 a5
   ·
    have hne:i ≠ j:=fun e=>by subst e; rw [hL] at a3; cases a3
    rcases zfv hl ht a4 a5 hne with h5 | h5
    ·
     have:=zlp hu h5; omega
    ·
     have h7:=yF h.down i o' a4 (h.down i o' a4 a3) j h5
     rw [hL] at h7; cases h7
theorem znL {L:Nat -> Bool} {j:Nat} {o:Oper} (hd:zgL ops L) (ho:ops[j]? = some o) (hanc:∀ e ∈ o.after.toList, Region.binds .any e = true -> L e.on = true):zgL ops (kM L j):=fun i o' hi hL e he hb=>by
 rw [vK] at hL ⊢
 rcases hL with hL | rfl
 ·
  exact .inl (hd i o' hi hL e he hb)
 ·
  rw [ho] at hi; injection hi with hi; subst hi
  exact .inl (hanc e he hb)
theorem InvQ.step (h:InvQ P lim ops s k r vf Mf nf cf kb mr ch B n ρ0 w0 b cs0 L b0 pe Mc ρ a w cs) (hst:∀ j, k <= j -> j < k + r -> StepQ P lim ops s k (k + r) vf ff Mf nf cf kb mr ch j) (hmr:∀ j, ch j = true -> mr j = true) (hu:upB ops = true) (hds:zcZ ops.toList 0 = true) (hff:ff k = s.fr) (hnk:nf k = s.nx) (hlim:lim <= s.nx)
  (hfin0:∀ l, s.nx <= l -> s.M.get l = none) (hf:Fresh ρ0 s.nx (nf (k + r))) {j:Nat} {o:Oper} {rest:List Nat} {kk:List Item} (hk:k <= j) (hj:j < k + r) (ho:ops[j]? = some o) (hL:L j = false) (hanc:∀ e ∈ o.after.toList, Region.binds .any e = true -> L e.on = true):
  ∃ b0' pe' Mc' ρ' a' w' cs', InvQ P lim ops s k r vf Mf nf cf kb mr ch B n ρ0 w0 b cs0 (kM L j) b0' pe' Mc' ρ' a' w' cs' /\ Steps P (lone (b.atR a (.inRegion ops (j :: rest) :: kk)) cs w) (lone (b.atR a' (.inRegion ops rest :: kk)) cs' w'):=by
 obtain ⟨o', l, ho', hlk, hdo, hff', hord, hcord, hcase⟩:=hst j hk hj
 rw [ho] at ho'; injection ho' with ho'; subst ho'
 have hfr:=h.mini hst hu hff hk hj ho hlk.1 hL hanc
 have hdown:=znL h.down ho hanc
 have hold:∀ i, i < k -> kM L j i = true:=fun i hi=>vK.2 (.inl (h.old i hi))
 have hbeh:∀ i, k + r <= i -> kM L j i = false:=fun i hi=>by
  simp only[kM, h.beh i hi, Bool.false_or]; simp; omega
 have ancL:∀ i, (maskAt ops j).testBit i = true -> L i = true:=fun i hi=>yF h.down j o ho hanc i hi
 have hlt:∀ d, o.dst = some d -> d < a.tmps.size:=fun d hd=>by
  rw [hd] at hdo
  simp only[xE, zLa] at hdo
  have:=qH.1 hdo.1
  rw [h.size, ← h.nn]; exact this
 -- the frame behind it
 have hdone:∀ (ρ':Rho) (u:Value), zam ρ ρ' -> VRel ρ' (vf j) u -> ∀ i o' d, k <= i -> i < k + r -> kM L j i = true -> ops[i]? = some o' -> o'.dst = some d -> VRel ρ' (vf i) ((a.put o.dst u).tmps.getD d undef):=by
  intro ρ' u hx hv i o' d h1 h2 h3 h4 h5
  by_cases e:i = j
  ·
   subst e
   rw [ho] at h4; injection h4 with h4; subst h4
   have hd:=hlt d h5
   rw [h5]
   simp only[Act.put, Av.getD_put]
   rw [if_pos ⟨by trivial, hd⟩]; exact hv
  ·
   have hLi:L i = true:=by
    rcases vK.1 h3 with h6 | h6
    ·
     exact h6
    ·
     exact absurd h6 e
   have h6:=(h.done i o' d h1 h2 hLi h4 h5).ext hx
   cases hdj:o.dst with
   | none=>exact h6
   | some dd=>
    have hne:d ≠ dd:=fun e2=>e (zrS hds h4 ho h5 (by rw [hdj, e2]))
    simp only[Act.put, Av.getD_put]
    rw [if_neg (fun c=>hne c.1)]; exact h6
 have hrest:∀ (ρ':Rho) (u:Value), zam ρ ρ' -> ∀ t x, (∀ i o', k <= i -> i < k + r -> kM L j i = true -> ops[i]? = some o' -> o'.dst ≠ some t) -> s.fr.get t = some x -> VRel ρ' x ((a.put o.dst u).tmps.getD t undef):=by
  intro ρ' u hx t x hno hg
  have h6:=(h.rest t x (fun i o' a1 a2 a3 a4=>hno i o' a1 a2 (vK.2 (.inl a3)) a4) hg).ext hx
  cases hdj:o.dst with
  | none=>exact h6
  | some dd=>
   have hne:t ≠ dd:=fun e2=>hno j o hk hj (vK.2 (.inr rfl)) ho (by rw [hdj, e2])
   simp only[Act.put, Av.getD_put]
   rw [if_neg (fun c=>hne c.1)]; exact h6
 -- what comes of it all
 have close:∀ (b0' pe':Nat) (Mc':Mem) (ρ':Rho) (a':Act) (u:Value) (w':World) (cs':List Frame), InvM P lim s k r Mf nf cf kb mr ch B ρ0 w0 (kM L j) b0' pe' Mc' ρ' w' -> zam ρ ρ' -> VRel ρ' (vf j) u -> a'.tmps = a.tmps -> DRelL ρ' s.dfs a'.defers -> UR ρ' s.up b cs0 cs' ->
   InvQ P lim ops s k r vf Mf nf cf kb mr ch B n ρ0 w0 b cs0 (kM L j) b0' pe' Mc' ρ' (a'.put o.dst u) w' cs':=by
  intro b0' pe' Mc' ρ' a' u w' cs' hm hx hv ht hd hup
  have hput:(a'.put o.dst u).tmps = (a.put o.dst u).tmps:=by cases hd:o.dst <;> simp [Act.put, ht]
  refine ⟨hdown, hold, hbeh, hm, by rw [Av.size_put, ht]; exact h.size, ?_, ?_, by rw [Av.defers_put]; exact hd, hup, h.rnd, h.nn, h.fid⟩
  ·
   intro i o' d x1 x2 x3 x4 x5
   rw [hput]; exact hdone ρ' u hx hv i o' d x1 x2 x3 x4 x5
  ·
   intro t x x1 x2
   rw [hput]; exact hrest ρ' u hx t x x1 x2
 have hsrq0:∀ (Mq:Mem) (nn:Nat), (∀ l' o', Mq.get l' = some o' -> Mc.get l' = some o') -> (∀ l', nn <= l' -> Mq.get l' = none) -> SR B n ρ { s with fr:=Bv.mini (ff j) l, M:=Mq, nx:=nn } b cs0 cs a w:=fun Mq nn hsub hfin=>
  ⟨h.m.base, hfin, ⟨fun l' o' hl'=>h.m.mem.obj l' o' (hsub l' o' hl'), fun l1 l2 o1 o2 b1 b2 x1 x2=>h.m.mem.dist l1 l2 o1 o2 b1 b2 (hsub _ _ x1) (hsub _ _ x2)⟩, hfr, h.dfs, h.up, h.rnd, h.nn, h.fid⟩
 have hsrq:∀ (Mq:Mem), (∀ l' o', Mq.get l' = some o' -> Mc.get l' = some o') -> (∀ l', nf j <= l' -> Mq.get l' = none) -> SR B n ρ { s with fr:=Bv.mini (ff j) l, M:=Mq, nx:=nf j } b cs0 cs a w:=fun Mq=>hsrq0 Mq (nf j)
 rcases hcase with ⟨hw, hv, hm0, hc0, hM, hn, _⟩ | ⟨hw, hm0, hc0, hM, hn, _, _, hflo⟩ | ⟨hw, hm1, hc0, hkb, q, M'', hq, hop, hM⟩ | ⟨hw, hm1, hc1, hkb, hcf, hop⟩
 ·
  -- it is passed over
  refine ⟨b0, pe, Mc, ρ, a.put o.dst undef, w, cs, close b0 pe Mc ρ a undef w cs (h.m.idle hfin0 hn hm0 (Below.refl _ _)) (fun _ _ x=>x) (by rw [hv]; simp [VRel, VRelL, undef]) rfl h.dfs h.up, .one ?_⟩
  have hst:=stepR_op_skip (P:=P) (b:=b) (a:=a) (k:=kk) (cs:=cs) (w:=w) (ops:=ops) (i:=j) (rest:=rest) (by simp [ho, xH hfr hw])
  simp only[ho, Option.bind_some] at hst
  exact hst
 ·
  -- it looks at no memory that turns
  have hph:=h.m.ph
  have hp1:=hph.h1
  have hp2:=hph.h2
  have hp3:=hph.h3
  obtain ⟨Mq, nn, M'', hMq, hop⟩:=hflo b0 hp1 (by omega) hph.kb0 (fun c c1 c2 c3=>by
   cases hb:(maskAt ops j).testBit c with
   | false=>rfl
   | true=>
    have h5:=ancL c hb
    rcases Nat.lt_or_ge c pe with h6 | h6
    ·
     rw [hph.no c c1 h6] at c3; cases c3
    ·
     rw [h.m.hi c h6 c2 (hmr c c3)] at h5; cases h5) (fun c c1 c2 c3=>by
   cases hb:(maskAt ops c).testBit j with
   | false=>rfl
   | true=>
    have h5:=h.m.lo c c1 c2 (hmr c c3)
    obtain ⟨oc, _, hoc, _⟩:=hst c c1 (by omega)
    have h6:=yF h.down c oc hoc (h.down c oc hoc h5) j hb
    rw [hL] at h6; cases h6)
  have hfind:=h.m.finds hst (dj:=0) (by omega) (q:=false) (fun c=>by cases c)
  simp only[cond_false, Nat.add_zero] at hfind
  obtain ⟨u, a', w', cs', ρ', g, r1, ht, hv, hsteps⟩:=hop.2.2 B n ρ w a b kk cs0 cs ops j rest (Nat.le_refl _) (fun l' h1 h2=>absurd (Nat.lt_of_le_of_lt h1 h2) (Nat.lt_irrefl _)) (hsrq0 Mq nn (fun l' o' hl'=>by
   rcases hMq with rfl | ⟨rfl, _⟩
   ·
    rw [Tr.get_lf] at hl'; cases hl'
   ·
    exact hfind.1 l' o' hl') (fun l' hl'=>by
   rcases hMq with rfl | ⟨rfl, hnn⟩
   ·
    exact Tr.get_lf l'
   ·
    exact hfind.2 l' (Nat.le_trans hnn hl'))) ho (xH hfr hw)
  have hρ:ρ' = ρ:=funext fun l'=>g.ext l' (Nat.lt_or_ge l' nn)
  subst hρ
  have hun:∀ g', g' < w.heap.size -> w'.heap[g']? = w.heap[g']?:=fun g' hg'=>g.unch g' hg' (fun l' b' o' h1 h2=>absurd (Nat.lt_of_le_of_lt h1 h2) (Nat.lt_irrefl _))
  have hbw:Below w.heap.size w w':=by
   obtain ⟨x1, x2, x3, x4, x5⟩:=g.below
   exact ⟨x1, x2, x3, x4, fun g' hg'=>hun g' hg'⟩
  exact ⟨b0, pe, Mc, ρ', _, w', cs', close b0 pe Mc ρ' a' u w' cs' (h.m.idle hfin0 hn hm0 hbw) (fun _ _ x=>x) hv ht r1.dfs r1.up, hsteps⟩
 ·
  -- it looks at memory, and turns none
  have hjb:b0 <= j:=by
   rcases Nat.lt_or_ge j b0 with c | c
   ·
    have:=h.m.lo j hk c hm1; rw [hL] at this; cases this
   ·
    exact c
  have hjp:j < pe:=by
   rcases Nat.lt_or_ge j pe with c | c
   ·
    exact c
   ·
    rcases h.m.ph.next with c2 | c2
    ·
     omega
    ·
     rcases Nat.lt_or_ge pe j with c3 | c3
     ·
      have h5:=ancL _ (hord hm1 pe (by have:=h.m.ph.h1; have:=h.m.ph.h2; omega) c3 c2)
      have h6:=h.m.hi pe (Nat.le_refl _) (by omega) (hmr pe c2)
      rw [h5] at h6; cases h6
     ·
      have:j = pe:=by omega
      subst this
      rw [hc0] at c2; cases c2
  obtain ⟨dj, rfl⟩:∃ dj, j = b0 + dj:=⟨j - b0, by omega⟩
  have hbits:=h.m.ph.bits hst dj (by omega)
  have made:q = true -> ∀ d', d' < dj -> nf (b0 + d') < nf (b0 + d' + 1) -> L (b0 + d') = true:=fun hq1 d' hd' hlt=>ancL _ (hq hq1 _ (hbits.2 d' hd' hlt))
  obtain ⟨hsub, hfin⟩:=h.m.finds hst (dj:=dj) (by omega) (q:=q) made
  rw [hbits.1] at hop
  generalize hMe:(bif q then Mf (b0 + dj) else Mf b0) = Mq at hop hsub hfin
  have hfresh:Fresh ρ (nf (b0 + dj)) (nf (b0 + dj + 1)):=fun l' h1 h2=>h.m.fresh (b0 + dj) l' hk hj hL h1 h2
  obtain ⟨u, a', w', cs', ρ', g, r1, ht, hv, hsteps⟩:=hop.2.2 B n ρ w a b kk cs0 cs ops (b0 + dj) rest (Nat.le_refl _) hfresh (hsrq Mq hsub hfin) ho (xH hfr hw)
  obtain ⟨Mc', hm'⟩:=h.m.quiet hst h.down hnk hlim hjp ho hL hMe hM g r1.fin r1.mem
  exact ⟨b0, pe, Mc', ρ', _, w', cs', close b0 pe Mc' ρ' a' u w' cs' hm' (g.rext hfresh) hv ht r1.dfs r1.up, hsteps⟩
 ·
  -- it turns memory
  have hjp:j = pe:=by
   rcases Nat.lt_or_ge j b0 with c | c
   ·
    have:=h.m.lo j hk c hm1; rw [hL] at this; cases this
   ·
    rcases Nat.lt_trichotomy j pe with c2 | c2 | c2
    ·
     have:=h.m.ph.no j c c2; rw [hc1] at this; cases this
    ·
     exact c2
    ·
     rcases h.m.ph.next with c3 | c3
     ·
      omega
     ·
      have h5:=ancL _ (hord hm1 pe (by have:=h.m.ph.h1; have:=h.m.ph.h2; omega) c2 c3)
      have h6:=h.m.hi pe (Nat.le_refl _) (by omega) (hmr pe c3)
      rw [h5] at h6; cases h6
  subst hjp
  have hall:∀ i, k <= i -> i < j -> mr i = true -> L i = true:=fun i h1 h2 h3=>ancL _ (hcord hc1 i h1 h2 h3)
  obtain ⟨he, hfresh, hfin, hnext⟩:=h.m.change hst hnk hlim hf hj hc1 hmr hall hkb hcf
  have hn1:=kw hst (Nat.le_refl k) hk (by omega)
  obtain ⟨u, a', w', cs', ρ', g, r1, ht, hv, hsteps⟩:=hop.2.2 B n ρ w a b kk cs0 cs ops j rest (by simp only; omega) hfresh (hsrq (Mf j) (fun l' o' hl'=>by rw [he l']; exact hl') hfin) ho (xH hfr hw)
  obtain ⟨pe', hm'⟩:=hnext ρ' w' g r1.fin r1.mem
  exact ⟨j + 1, pe', _, ρ', _, w', cs', close (j + 1) pe' _ ρ' a' u w' cs' hm' (g.rext hfresh) hv ht r1.dfs r1.up, hsteps⟩
end
theorem zk1 (hst:∀ j, k <= j -> j < k + r -> StepQ P lim ops s k (k + r) vf ff Mf nf cf kb mr ch j) (hmr:∀ j, ch j = true -> mr j = true) (hu:upB ops = true) (hds:zcZ ops.toList 0 = true) (hff:ff k = s.fr) (hc0:cf k = 0) (hkb:kb k = k) (hnk:nf k = s.nx) (hMk:Mf k = s.M) (hr:k + r <= ops.size)
  (hnext:k + r = ops.size ∨ zhn ops (k + r) = true) (h2:TSO P lim ops (k + r) { s with fr:=ff (k + r), M:=Mf (k + r), nx:=nf (k + r) } e s'):TSO P lim ops k s e s':=by
 have hn1:s.nx <= nf (k + r):=by rw [← hnk]; exact zhx hst k (Nat.le_refl _) r (Nat.le_refl _)
 have hn2:nf (k + r) <= s'.nx:=h2.1
 refine ⟨by omega, fun t listed hl=>⟨by omega, fun B n ρ w a b kk cs0 cs hlim hf hs=>?_⟩⟩
 have finish:∀ (fuel t:Nat) (listed:Array Bool) (b0 pe:Nat) (Mc:Mem) (ρ':Rho) (a':Act) (w':World) (cs':List Frame), listed.size = ops.size -> fuel = unl ops.size (fun i=>listed.getD i false) ->
   InvQ P lim ops s k r vf Mf nf cf kb mr ch B n ρ w b cs0 (fun i=>listed.getD i false) b0 pe Mc ρ' a' w' cs' -> (∀ i, i < k + r -> listed.getD i false = true) ->
   ∃ a2 w2 cs2 ρ2, Goes lim B s.nx s'.nx ρ ρ2 s.M s'.M w w2 /\ SR B n ρ2 s' b cs0 cs2 a2 w2 /\ AtX P (lone (b.atR a' ([.inRegion ops (Region.linearise.go .any ops fuel t listed [])] ++ kk)) cs' w') b kk cs2 ρ2 a2 w2 e:=by
  intro fuel t listed b0 pe Mc ρ' a' w' cs' hsz hfu hI hall
  have hx:zdW ops (k + r) listed:=⟨hsz, fun i hi=>by
   rcases Nat.lt_or_ge i (k + r) with h1 | h1
   ·
    rw [hall i h1]; simp [h1]
   ·
    have:listed.getD i false = false:=hI.beh i h1
    rw [this]; simp; omega⟩
  have hfuel:fuel = ops.size - (k + r):=by rw [hfu]; exact zjk hr hx.2
  subst hfuel
  have hph:=hI.m.ph
  have hpe:pe = k + r:=by
   rcases hph.next with c | c
   ·
    exact c
   ·
    have h3:=hph.h3
    rcases Nat.lt_or_ge pe (k + r) with c2 | c2
    ·
     have h8:listed.getD pe false = false:=hI.m.hi pe (Nat.le_refl _) c2 (hmr pe c)
     rw [hall pe c2] at h8; cases h8
    ·
     omega
  subst hpe
  have hb1:=hph.h1
  have hb2:=hph.h2
  have hmon:∀ d', d' < k + r - b0 -> nf (b0 + d') <= nf (b0 + d' + 1):=fun d' hd=>(hst (b0 + d') (by omega) (by omega)).cases.1
  have href:=hI.m.ref (k + r - b0) (Nat.le_refl _) (fun d' hd' _=>hall _ (by omega))
  rw [show b0 + (k + r - b0) = k + r from by omega] at href
  have he:∀ l, Mc.get l = (Mf (k + r)).get l:=fun l=>by rw [hI.m.get l, href l]
  have hg:=hI.m.goes.congrR he
  have hfr:FrRel ρ' n (ff (k + r)) a'.tmps:=⟨hI.size, fun t x hx=>by
   rcases zn5 hst (k + r) (by omega) (Nat.le_refl _) t x hx with ⟨w', o', h1, h2, h3, h4, rfl⟩ | ⟨h1, h2⟩
   ·
    exact hI.done w' o' t h1 h2 (hall w' h2) h3 h4
   ·
    rw [hff] at h2
    exact hI.rest t x (fun i o' a1 a2 a3 a4=>h1 i o' a1 a2 a4) h2⟩
  obtain ⟨a2, w2, cs2, ρ2, g, r1, x⟩:=(h2.2 t listed hx).2 B n ρ' w' a' b kk cs0 cs' (Nat.le_trans hlim hn1) (hf.right hg) ⟨hI.m.base, fun l hl=>by rw [href l]; exact ku hmon (by rw [show b0 + (k + r - b0) = k + r from by omega]; exact hl), hI.m.mem.congr he, hfr, hI.dfs, hI.up, hI.rnd, hI.nn, hI.fid⟩
  exact ⟨a2, w2, cs2, ρ2, hg.trans g, r1, x⟩
 have key:∀ (fuel t:Nat) (listed:Array Bool) (b0 pe:Nat) (Mc:Mem) (ρ':Rho) (a':Act) (w':World) (cs':List Frame), listed.size = ops.size -> fuel = unl ops.size (fun i=>listed.getD i false) ->
   InvQ P lim ops s k r vf Mf nf cf kb mr ch B n ρ w b cs0 (fun i=>listed.getD i false) b0 pe Mc ρ' a' w' cs' ->
   ∃ a2 w2 cs2 ρ2, Goes lim B s.nx s'.nx ρ ρ2 s.M s'.M w w2 /\ SR B n ρ2 s' b cs0 cs2 a2 w2 /\ AtX P (lone (b.atR a' ([.inRegion ops (Region.linearise.go .any ops fuel t listed [])] ++ kk)) cs' w') b kk cs2 ρ2 a2 w2 e:=by
  intro fuel
  induction fuel with
  | zero=>
   intro t listed b0 pe Mc ρ' a' w' cs' hsz hfu hI
   have hall:=zoC hfu.symm
   have hrm:k + r = ops.size:=by
    rcases Nat.lt_or_ge (k + r) ops.size with h1 | h1
    ·
     have h3:=hI.beh (k + r) (Nat.le_refl _)
     simp only[hall _ h1] at h3
     cases h3
    ·
     omega
   exact finish 0 t listed b0 pe Mc ρ' a' w' cs' hsz hfu hI (fun i hi=>hall i (by omega))
  | succ f ih=>
   intro t listed b0 pe Mc ρ' a' w' cs' hsz hfu hI
   by_cases hall:∀ i, i < k + r -> listed.getD i false = true
   ·
    exact finish (f + 1) t listed b0 pe Mc ρ' a' w' cs' hsz hfu hI hall
   ·
    obtain ⟨j, hj⟩:∃ j, ¬ (j < k + r -> listed.getD j false = true):=Classical.not_forall.1 hall
    have hj1:j < k + r:=Classical.byContradiction fun c=>hj fun c2=>absurd c2 c
    have hj2:¬ listed.getD j false = true:=fun c=>hj fun _=>c
    rcases zis (ops:=ops) f t listed with ⟨h1, _⟩ | ⟨i, t', h1, h3⟩
    ·
     exact absurd (ready_nil hu hsz h1 j (by omega)) hj2
    ·
     obtain ⟨o, h4, h5, h6⟩:=zfk hsz h1
     have hlt:=wV h4
     have hik:k <= i:=by
      rcases Nat.lt_or_ge i k with h7 | h7
      ·
       have:=hI.old i h7
       simp only[h5] at this; cases this
      ·
       exact h7
     have hir:i < k + r:=by
      rcases Nat.lt_or_ge i (k + r) with h7 | h7
      ·
       exact h7
      ·
       rcases hnext with h8 | h8
       ·
        omega
       ·
        obtain ⟨c1, c2⟩:=zgi h8
        have hanc:=yF (L:=fun i=>listed.getD i false) hI.down i o h4 h6
        rcases Nat.lt_or_ge (k + r) i with h9 | h9
        ·
         have h10:=hanc _ (c2 i h9 hlt)
         have h11:listed.getD (k + r) false = false:=hI.beh (k + r) (Nat.le_refl _)
         have h10:listed.getD (k + r) false = true:=h10
         rw [h10] at h11; cases h11
        ·
         have:i = k + r:=by omega
         subst this
         exact absurd (hanc j (c1 j hj1)) hj2
     rw [h3]
     obtain ⟨b0', pe', Mc', ρ1, a1, w1, cs1, hI', hsteps⟩:=hI.step hst hmr hu hds hff hnk hlim hs.fin (hf.left hn2) (rest:=Region.linearise.go .any ops f t' (listed.setIfInBounds i true) []) (kk:=kk) hik hir h4 h5 h6
     have hL:(fun x=>(listed.setIfInBounds i true).getD x false) = kM (fun x=>listed.getD x false) i:=funext fun x=>za9 (by omega) x
     have hfu':f = unl ops.size (fun x=>(listed.setIfInBounds i true).getD x false):=by
      have:=zpE (m:=ops.size) (j:=i) (L:=fun x=>listed.getD x false) (L':=fun x=>(listed.setIfInBounds i true).getD x false) hlt h5 (by rw [za9 (by omega)]; simp) (fun x hx=>by rw [za9 (by omega)]; simp [hx])
      omega
     rw [← hL] at hI'
     obtain ⟨a2, w2, cs2, ρ2, g, r1, x⟩:=ih t' (listed.setIfInBounds i true) b0' pe' Mc' ρ1 a1 w1 cs1 (by simpa using hsz) hfu' hI'
     exact ⟨a2, w2, cs2, ρ2, g, r1, .of_steps hsteps x⟩
 have hfu:ops.size - k = unl ops.size (fun i=>listed.getD i false):=(zjk (by omega) hl.2).symm
 -- the first phase
 obtain ⟨pe, h1, h3, h4⟩:∃ pe, k <= pe /\ (pe <= k + r /\ ∀ i, k <= i -> i < pe -> ch i = false) /\ (pe = k + r ∨ ch pe = true):=by
  have:∀ d, k + d <= k + r -> (∀ i, k <= i -> i < k + d -> ch i = false) ∨ ∃ pe', k <= pe' /\ pe' < k + d /\ (∀ i, k <= i -> i < pe' -> ch i = false) /\ ch pe' = true:=fun d=>by
   induction d with
   | zero=>intro _; exact .inl (fun i h1 h2=>by omega)
   | succ d ih=>
    intro hd
    rcases ih (by omega) with c | ⟨p, c1, c2, c3⟩
    ·
     cases hc:ch (k + d) with
     | true=>exact .inr ⟨k + d, by omega, by omega, c, hc⟩
     | false=>
      refine .inl (fun i h1 h2=>?_)
      by_cases e:i = k + d
      ·
       rw [e]; exact hc
      ·
       exact c i h1 (by omega)
    ·
     exact .inr ⟨p, c1, by omega, c3⟩
  rcases this r (Nat.le_refl _) with c | ⟨p, c1, c2, c3, c4⟩
  ·
   exact ⟨k + r, by omega, ⟨Nat.le_refl _, c⟩, .inl rfl⟩
  ·
   exact ⟨p, c1, ⟨by omega, c3⟩, .inr c4⟩
 have hmon:∀ d', d' < pe - k -> nf (k + d') <= nf (k + d' + 1):=fun d' hd=>(hst (k + d') (by omega) (by omega)).cases.1
 have hLk:∀ d', k + d' < ops.size -> listed.getD (k + d') false = false:=fun d' hd'=>by
  rw [hl.2 _ hd']; simp
 have hbase:∀ d, d <= pe - k -> ∀ l, yV k Mf nf (fun i=>listed.getD i false) d l = s.M.get l:=fun d hd l=>by
  rw [zcg (r:=pe - k) hmon d hd (fun d' hd' _=>hLk d' (by omega)), hMk]
  by_cases c:l < nf k
  ·
   rw [if_pos c]
  ·
   rw [if_neg c]; exact (hs.fin l (by omega)).symm
 refine key (ops.size - k) t listed k pe s.M ρ a w cs hl.1 hfu ⟨zd9 hu hl, fun i hi=>?_, fun i hi=>?_, ⟨⟨Nat.le_refl _, h1, h3.1, h3.2, h4, hkb, hc0⟩, fun i a1 a2=>by omega, fun i a1 a2 _=>?_, fun l=>(hbase _ (Nat.le_refl _) l).symm, fun d hd hc l=>?_, fun i l a1 a2 _ a3 a4=>?_, ?_, hs.base, hs.mem⟩, hs.fr.1, fun i o d h1 h3 h4=>?_, fun t x _ hx=>hs.fr.2 t x hx, hs.dfs, hs.up, hs.rnd, hs.nn, hs.fid⟩
 ·
  rw [hl.2 i (by omega)]; simp [hi]
 ·
  rcases Nat.lt_or_ge i ops.size with h1 | h1
  ·
   rw [hl.2 i h1]; simp; omega
  ·
   simp [Array.getD, show ¬ i < listed.size by rw [hl.1]; omega]
 ·
  show listed.getD i false = false
  rw [hl.2 i (by omega)]; simp; omega
 ·
  rw [hbase d hd l, ← hMk]
  have:∀ d', d' <= d -> Mf (k + d') = Mf k:=fun d'=>by
   induction d' with
   | zero=>intro _; rfl
   | succ d' ih=>
    intro hd'
    rcases (hst (k + d') (by omega) (by omega)).cases.2 with ⟨_, _, _, c, _⟩ | ⟨_, _, _, c, _⟩ | ⟨_, c, _⟩
    ·
     rw [show k + (d' + 1) = k + d' + 1 from rfl, c, ih (by omega)]
    ·
     have h8:listed.getD (k + d') false = true:=hc d' (by omega) c
     rw [hLk d' (by omega)] at h8; cases h8
    ·
     rw [h3.2 (k + d') (by omega) (by omega)] at c; cases c
  rw [this d (Nat.le_refl _)]
 ·
  have h5:=kw hst (Nat.le_refl k) (b:=i) (by omega) (by omega)
  have h6:=kw hst (a:=i + 1) (b:=k + r) (by omega) (by omega) (Nat.le_refl _)
  exact hf l (by omega) (by omega)
 ·
  exact ⟨fun _ _=>rfl, hn1, Below.refl _ _, fun _ _ _=>rfl, fun _ _=>rfl, fun _ _ h=>h, fun l b o h1 h3 _=>(by rw [hs.fin l h1] at h3; cases h3), fun h l hl=>h l (by omega)⟩
 ·
  simp only[hl.2 i (by omega)] at h4
  have:=of_decide_eq_true h4; omega
end
end
end Go.Bv
end
