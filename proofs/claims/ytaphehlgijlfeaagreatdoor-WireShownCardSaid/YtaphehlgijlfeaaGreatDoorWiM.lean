import Derived.Test.YtaphehlgijlfeaaGreatDoorWiL
import Derived.Test.YtaphehlgijlfeaaGreatDoorPlatJ
set_option linter.unusedVariables false
set_option linter.unusedSimpArgs false
section
namespace Go.Av
open Go.Proofs
def dg (m:List Int) (q j:Nat):Int:=if h:j < m.length then dig m[j] q else yU m q % 10
theorem zoL {m:List Int} {q j:Nat} (h:j < m.length):dg m q j = dig m[j] q:=by unfold dg; rw [dif_pos h]
theorem zqY {m:List Int} {q j:Nat} (h:m.length <= j):dg m q j = yU m q % 10:=by unfold dg; rw [dif_neg (by omega)]
theorem zgs {m:List Int} {j q:Nat} (hj:j < (vV m).length) (hq:q < 5):zqk (vV m)[j] q = dg m q j:=by
 have hl:(vV m).length = m.length + 1:=by simp [vV]
 by_cases h:j < m.length
 ·
  rw [zoL h]
  have e:(vV m)[j] = qB m[j]:=by simp [vV, h]
  rw [e]
  match q, hq with
  | 0, _=>rfl
  | 1, _=>rfl
  | 2, _=>rfl
  | 3, _=>rfl
  | 4, _=>rfl
 ·
  have hj':j = m.length:=by omega
  subst hj'
  rw [zqY (Nat.le_refl _)]
  have e:(vV m)[m.length]'hj = chk m:=by simp [vV]
  rw [e, ← zk0]
  simp only[qB, ckN]
  match q, hq with
  | 0, _=>show _ / 10 / 10 / 10 / 10 % 10 = _; omega
  | 1, _=>show _ / 10 / 10 / 10 % 10 = _; omega
  | 2, _=>show _ / 10 / 10 % 10 = _; omega
  | 3, _=>show _ / 10 % 10 = _; omega
  | 4, _=>show _ % 10 = _; omega
def pv (x:Int) (p:Nat):Int:=dv x (5 - p)
theorem pv5 (x:Int):pv x 5 = x:=rfl
theorem zey (x:Int) {p:Nat} (h:p < 5):pv x p = pv x (p + 1) / 10 /\ dig x p = pv x (p + 1) % 10:=by
 match p, h with
 | 0, _=>exact ⟨rfl, rfl⟩
 | 1, _=>exact ⟨rfl, rfl⟩
 | 2, _=>exact ⟨rfl, rfl⟩
 | 3, _=>exact ⟨rfl, rfl⟩
 | 4, _=>exact ⟨rfl, rfl⟩
theorem zpU (x:Int) {p:Nat} (h:p < 5):pv x (p + 1) = 10 * pv x p + dig x p:=by
 obtain ⟨h1, h2⟩:=zey x h; omega
theorem pv0 {x:Int} (h:0 <= x /\ x <= 99999):pv x 0 = 0:=by show x / 10 / 10 / 10 / 10 / 10 = 0; omega
def vW:List Int -> Nat -> Nat -> List Int
 | [], _, _=>[]
 | x :: xs, p, 0=>pv x p :: vW xs p 0
 | x :: xs, p, a + 1=>pv x (p + 1) :: vW xs p a
theorem kF:∀ (m:List Int) (p a:Nat), (vW m p a).length = m.length
 | [], _, _=>rfl
 | _ :: xs, p, 0=>by simp [vW, kF xs p 0]
 | _ :: xs, p, a + 1=>by simp [vW, kF xs p a]
theorem zdw:∀ (m:List Int) (p a:Nat), m.length <= a -> vW m p a = vW m (p + 1) 0
 | [], _, _, _=>rfl
 | _ :: _, _, 0, h=>by simp at h
 | x :: xs, p, a + 1, h=>by simp only[vW]; rw [zdw xs p a (by simpa using h)]
theorem zkB:∀ m:List Int, vW m 5 0 = m
 | []=>rfl
 | x :: xs=>by simp only[vW, pv5]; rw [zkB xs]
theorem za1:∀ {m:List Int} {p a j:Nat} (h:j < m.length), (vW m p a)[j]'(by rw [kF]; exact h) = pv m[j] (if j < a then p + 1 else p)
 | x :: xs, p, 0, 0, _=>rfl
 | x :: xs, p, 0, j + 1, h=>by
  simp only[vW, List.getElem_cons_succ]
  rw [za1 (by simpa using h)]; simp
 | x :: xs, p, a + 1, 0, _=>by simp [vW]
 | x :: xs, p, a + 1, j + 1, h=>by
  simp only[vW, List.getElem_cons_succ]
  rw [za1 (by simpa using h)]; simp
theorem zmC {m:List Int} {p a:Nat} (h:a < m.length) (hp:p < 5):vW m p (a + 1) = (vW m p a).set a (10 * pv m[a] p + dig m[a] p):=by
 refine List.ext_getElem (by simp [kF]) fun j h1 h2=>?_
 have hj:j < m.length:=by simpa [kF] using h1
 rw [za1 hj, List.getElem_set]
 by_cases e:a = j
 ·
  subst e
  rw [if_pos rfl, if_pos (by omega), zpU _ hp]
 ·
  rw [if_neg e, za1 hj]
  by_cases h3:j < a
  ·
   rw [if_pos h3, if_pos (by omega)]
  ·
   rw [if_neg h3, if_neg (by omega)]
theorem zdy {m now:List Int} {p a:Nat} {f:Int} (h:a < m.length) (hp:p < 5) (hl:now.length = m.length) (hf:0 <= f /\ f <= 9) (e:vW m p (a + 1) = now.set a (10 * (now.getD a 0) + f)):vW m p a = now /\ f = dig m[a] p:=by
 have ha:a < now.length:=by omega
 have hg:now.getD a 0 = now[a]:=by simp [List.getD_eq_getElem?_getD, List.getElem?_eq_getElem ha]
 have key:∀ j (hj:j < m.length), pv m[j] (if j < a + 1 then p + 1 else p) = if a = j then 10 * now[a] + f else now[j]'(by omega):=fun j hj=>by
  have h1:=za1 (p:=p) (a:=a + 1) hj
  rw [← h1]
  simp only[e, hg]
  rw [List.getElem_set]
 have ka:=key a h
 rw [if_pos (by omega), if_pos rfl] at ka
 obtain ⟨h1, h2⟩:=zey m[a] hp
 refine ⟨List.ext_getElem (by rw [kF, hl]) fun j h3 h4=>?_, by omega⟩
 have hj:j < m.length:=by rwa [kF] at h3
 rw [za1 hj]
 by_cases ej:a = j
 ·
  subst ej
  rw [if_neg (by omega)]; omega
 ·
  have:=key j hj
  rw [if_neg ej] at this
  rw [← this]
  by_cases h5:j < a
  ·
   rw [if_pos h5, if_pos (by omega)]
  ·
   rw [if_neg h5, if_neg (by omega)]
def zvc (c:Cod) (l:List (List (List UInt8))):Nat -> Nat -> Nat -> Int -> Int × Int × Int -> List Int -> List (List Int)
 | 0, _, _, _, _, _=>[]
 | fu + 1, pz, a, sum, n, now=>
  if pz = 5 then (if wS c now then [now] else [])
  else if a = c.fields.length then (if vN c l a pz (sum % 10) n then zvc c l fu (pz + 1) 0 0 (plN l a pz (sum % 10) n) now else [])
  else (zaA c l a pz n).flatMap fun (f:Nat)=>zvc c l fu pz (a + 1) (sum + (f:Int)) (plN l a pz (f:Int) n) (now.set a (10 * now.getD a 0 + (f:Int)))
def stp (k:Nat):Nat -> Nat -> Nat -> List (Nat × Nat)
 | 0, _, _=>[]
 | fu + 1, p, a=>if p = 5 then [] else (p, a) :: (if a = k then stp k fu (p + 1) 0 else stp k fu p (a + 1))
def zkU (c:Cod) (l:List (List (List UInt8))) (m:List Int):List (Nat × Nat) -> Int × Int × Int -> Bool
 | [], _=>true
 | s :: r, n=>vN c l s.2 s.1 (dg m s.1 s.2) n && zkU c l m r (plN l s.2 s.1 (dg m s.1 s.2) n)
def zaj (now:List Int) (a:Nat):Int:=(now.take a).foldl (fun s x=>s + x % 10) 0
theorem zdZ {now:List Int} {a:Nat} (h:a < now.length):zaj now (a + 1) = zaj now a + now[a] % 10:=by
 unfold zaj; rw [List.take_succ_eq_append_getElem h, List.foldl_append]; rfl
theorem zff {now:List Int} {a:Nat} {x:Int}:zaj (now.set a x) a = zaj now a:=by
 unfold zaj; rw [List.take_set_of_le (by omega)]
theorem zmG:∀ (m:List Int) (p:Nat), p < 5 -> zaj (vW m p m.length) m.length = yU m p:=fun m p hp=>by
 have e:zaj (vW m p m.length) m.length = (vW m p m.length).foldl (fun s x=>s + x % 10) 0:=by
  unfold zaj; rw [List.take_of_length_le (by rw [kF]; exact Nat.le_refl _)]
 rw [e, zdw m p _ (Nat.le_refl _)]
 unfold yU
 have key:∀ (m:List Int) (t:Int), (vW m (p + 1) 0).foldl (fun s x=>s + x % 10) t = m.foldl (fun s n=>s + dig n p) t:=by
  intro m
  induction m with
  | nil=>intro t; rfl
  | cons x xs ih=>
   intro t
   simp only[vW, List.foldl_cons]
   rw [ih, (zey x hp).2]
 exact key m 0
theorem zbF {c:Cod} {l:List (List (List UInt8))} {a pz:Nat} {n:Int × Int × Int} {f:Nat}:f ∈ zaA c l a pz n ↔ f < 10 /\ vN c l a pz (f:Int) n = true:=by
 simp [zaA]
def yO (k pz a:Nat):Nat:=(5 - pz) * (k + 1) + (k - a) + 1
theorem zfl (c:Cod) (l:List (List (List UInt8))):∀ (fu pz a:Nat) (sum:Int) (n:Int × Int × Int) (now m:List Int), pz <= 5 -> a <= c.fields.length -> (pz = 5 -> a = 0) -> yO c.fields.length pz a <= fu -> now.length = c.fields.length -> sum = zaj now a ->
  (m ∈ zvc c l fu pz a sum n now ↔ wS c m = true /\ vW m pz a = now /\ zkU c l m (stp c.fields.length fu pz a) n = true):=by
 intro fu
 induction fu with
 | zero=>intro pz a sum n now m _ _ _ h; unfold yO at h; omega
 | succ fu ih=>
  intro pz a sum n now m hp ha h5 hfu hl hs
  simp only[zvc, stp]
  by_cases e5:pz = 5
  ·
   subst e5
   have:=h5 rfl; subst this
   rw [if_pos rfl, if_pos rfl, zkB]
   simp only[zkU, and_true]
   by_cases hm:wS c now = true
   ·
    rw [if_pos hm]
    simp only[List.mem_singleton]
    constructor
    ·
     rintro rfl; exact ⟨hm, rfl⟩
    ·
     exact fun h=>h.2
   ·
    rw [if_neg hm]
    simp only[List.not_mem_nil, false_iff, not_and]
    rintro h rfl; exact hm h
  ·
   rw [if_neg e5, if_neg e5]
   have hp5:pz < 5:=by omega
   have hmu:(5 - pz) * (c.fields.length + 1) = (5 - (pz + 1)) * (c.fields.length + 1) + (c.fields.length + 1):=by
    rw [← Nat.succ_mul]; congr 1; omega
   simp only[zkU]
   by_cases ea:a = c.fields.length
   ·
    rw [if_pos ea, if_pos ea]
    have ih':=ih (pz + 1) 0 0 (plN l a pz (sum % 10) n) now m (by omega) (by omega) (fun _=>rfl) (by unfold yO at hfu ⊢; omega) hl (by simp [zaj])
    have hD:wS c m = true -> vW m pz a = now -> dg m pz a = sum % 10:=fun hm hpre=>by
     have hml:=wU hm
     rw [zqY (by omega), hs, ← hpre, ea, ← hml, zmG m pz hp5]
    have hP:m.length = c.fields.length -> vW m pz a = vW m (pz + 1) 0:=fun hm=>zdw m pz a (by omega)
    constructor
    ·
     intro h
     split at h
     ·
      rename_i hb
      rw [ih'] at h
      have hpre:vW m pz a = now:=by rw [hP (wU h.1)]; exact h.2.1
      have hd:=hD h.1 hpre
      refine ⟨h.1, hpre, ?_⟩
      rw [hd, hb, Bool.true_and]; exact h.2.2
     ·
      cases h
    ·
     rintro ⟨h1, h2, h3⟩
     have hd:=hD h1 h2
     rw [hd, zLa] at h3
     rw [if_pos h3.1, ih']
     exact ⟨h1, by rw [← hP (wU h1)]; exact h2, h3.2⟩
   ·
    rw [if_neg ea, if_neg ea]
    have halt:a < c.fields.length:=by omega
    have han:a < now.length:=by omega
    have hg:now.getD a 0 = now[a]:=by simp [List.getD_eq_getElem?_getD, List.getElem?_eq_getElem han]
    have ih':∀ f:Nat, f < 10 -> (m ∈ zvc c l fu pz (a + 1) (sum + (f:Int)) (plN l a pz (f:Int) n) (now.set a (10 * now.getD a 0 + (f:Int))) ↔ wS c m = true /\ vW m pz (a + 1) = now.set a (10 * now.getD a 0 + (f:Int)) /\ zkU c l m (stp c.fields.length fu pz (a + 1)) (plN l a pz (f:Int) n) = true):=fun f hf=>
     ih pz (a + 1) _ _ _ m hp (by omega) (fun h=>absurd h e5) (by unfold yO at hfu ⊢; omega) (by simpa using hl) (by
      rw [zdZ (by simpa using han), zff, hs]
      simp only[List.getElem_set_self]
      omega)
    simp only[List.mem_flatMap, zbF]
    constructor
    ·
     rintro ⟨f, ⟨hf, hb⟩, h⟩
     rw [ih' f hf] at h
     have hml:=wU h.1
     obtain ⟨k1, k2⟩:=zdy (a:=a) (by omega) hp5 (by omega) (by omega) h.2.1
     refine ⟨h.1, k1, ?_⟩
     rw [zoL (show a < m.length by omega), ← k2, hb, Bool.true_and]
     exact h.2.2
    ·
     rintro ⟨h1, h2, h3⟩
     have hml:=wU h1
     have hd:dg m pz a = dig (m[a]'(by omega)) pz:=zoL (by omega)
     have hb:=jq (n:=m[a]'(by omega)) pz
     have hf:(((dig (m[a]'(by omega)) pz).toNat:Nat):Int) = dig (m[a]'(by omega)) pz:=by omega
     rw [hd, zLa] at h3
     refine ⟨(dig (m[a]'(by omega)) pz).toNat, ⟨by omega, by rw [hf]; exact h3.1⟩, ?_⟩
     rw [ih' _ (by omega), hf]
     refine ⟨h1, ?_, h3.2⟩
     rw [zmC (by omega) hp5, h2, hg]
     congr 2
     have:=za1 (m:=m) (p:=pz) (a:=a) (j:=a) (by omega)
     rw [if_neg (by omega)] at this
     rw [← this]
     simp only[h2]
def okS (c:Cod) (l:List (List (List UInt8))) (m:List Int) (i:Nat):List (Nat × Nat) -> Int -> Bool
 | [], _=>true
 | s :: r, x=>okQ c l s.2 s.1 (dg m s.1 s.2) i x && okS c l m i r (x + wP l s.2 s.1 (dg m s.1 s.2) i)
theorem ziZ (c:Cod) (l:List (List (List UInt8))) (m:List Int):∀ (S:List (Nat × Nat)) (n:Int × Int × Int), zkU c l m S n = (okS c l m 0 S n.1 && (okS c l m 1 S n.2.1 && okS c l m 2 S n.2.2))
 | [], _=>rfl
 | s :: r, n=>by
  simp only[zkU, okS, ziZ c l m r, vN, plN]
  cases okQ c l s.2 s.1 (dg m s.1 s.2) 0 n.1 <;> cases okQ c l s.2 s.1 (dg m s.1 s.2) 1 n.2.1 <;> cases okQ c l s.2 s.1 (dg m s.1 s.2) 2 n.2.2 <;>
   cases okS c l m 0 r (n.1 + wP l s.2 s.1 (dg m s.1 s.2) 0) <;> cases okS c l m 1 r (n.2.1 + wP l s.2 s.1 (dg m s.1 s.2) 1) <;> cases okS c l m 2 r (n.2.2 + wP l s.2 s.1 (dg m s.1 s.2) 2) <;> rfl
theorem zlH {c:Cod} {l:List (List (List UInt8))} {m:List Int} {i:Nat} (h:l.length <= i):∀ (S:List (Nat × Nat)) (x:Int), okS c l m i S x = true
 | [], _=>rfl
 | s :: r, x=>by simp only[okS, zaR h, zlH h r, Bool.and_self]
def rcv (m:List Int) (g:List (List UInt8)) (s:Nat × Nat):Int × Int:=(chF g s.2 s.1, dg m s.1 s.2)
def zc8 (m:List Int) (g:List (List UInt8)) (S:List (Nat × Nat)):Int:=S.foldr (fun s t=>wrN (rcv m g s) + t) 0
theorem zlw (m:List Int) (g:List (List UInt8)):∀ S, 0 <= zc8 m g S
 | []=>Int.le_refl _
 | s :: r=>by
  have h1:=zlw m g r
  have h2:=zbv (rcv m g s)
  show 0 <= wrN _ + zc8 m g r
  omega
theorem zk8 {c:Cod} {l:List (List (List UInt8))} {m:List Int} {i:Nat} (h:i < l.length):∀ (S:List (Nat × Nat)) (x:Int), x <= c.most -> okS c l m i S x = (S.all (fun s=>okP c (rcv m l[i] s)) && decide (x + zc8 m l[i] S <= c.most))
 | [], x, hx=>by simp [okS, zc8, hx]
 | s :: r, x, hx=>by
  have hw:wP l s.2 s.1 (dg m s.1 s.2) i = wrN (rcv m l[i] s):=by unfold wP rcv; rw [dif_pos h]
  have hq:okQ c l s.2 s.1 (dg m s.1 s.2) i x = (okP c (rcv m l[i] s) && decide (x + wrN (rcv m l[i] s) <= c.most)):=by unfold okQ rcv; rw [dif_pos h]
  have hs:zc8 m l[i] (s :: r) = wrN (rcv m l[i] s) + zc8 m l[i] r:=rfl
  have hb:=zlw m l[i] r
  simp only[okS, hw, hq, List.all_cons, hs]
  by_cases hle:x + wrN (rcv m l[i] s) <= c.most
  ·
   rw [zk8 h r _ hle, decide_eq_true hle, Bool.and_true, Bool.and_assoc]
   congr 3
   rw [Int.add_assoc]
  ·
   rw [decide_eq_false hle, Bool.and_false, Bool.false_and, decide_eq_false (by omega), Bool.and_false]
theorem zgl {xs:List (Int × Int)} {F:Nat -> Int × Int}:∀ k, k <= xs.length -> (∀ q (h:q < xs.length), xs[q] = F q) -> zjL (xs.take k) = jB k (fun q=>wrN (F q))
 | 0, _, _=>by simp [zjL, jB]
 | k + 1, hk, h=>by rw [zmI (by omega), zgl k (by omega) h, h k (by omega)]; rfl
theorem zgK {L:List (List (Int × Int))} {F:Nat -> Nat -> Int × Int}:∀ k, k <= L.length -> (∀ j (h:j < L.length), zjL L[j] = jB 5 (fun q=>wrN (F j q))) -> zkI (L.take k) = jB k (fun j=>jB 5 (fun q=>wrN (F j q)))
 | 0, _, _=>by simp [zkI, jB]
 | k + 1, hk, h=>by rw [zmK (by omega), zgK k (by omega) h, h k (by omega)]; rfl
def grid (k:Nat):List (Nat × Nat):=(List.range 5).flatMap fun q=>(List.range (k + 1)).map fun j=>(q, j)
theorem zdc {k:Nat} {s:Nat × Nat}:s ∈ grid k ↔ s.1 < 5 /\ s.2 <= k:=by
 obtain ⟨q, j⟩:=s
 simp [grid]; omega
theorem zjA {k:Nat} (h:1 <= k /\ k <= 3):stp k 24 0 0 = grid k:=by
 have:k = 1 ∨ k = 2 ∨ k = 3:=by omega
 rcases this with rfl | rfl | rfl <;> rfl
theorem zgt {k:Nat} (h:1 <= k /\ k <= 3) (m:List Int) (g:List (List UInt8)):zc8 m g (grid k) = jB 5 (fun q=>jB (k + 1) (fun j=>wrN (rcv m g (q, j)))):=by
 have:k = 1 ∨ k = 2 ∨ k = 3:=by omega
 rcases this with rfl | rfl | rfl
 ·
  show zc8 m g [(0,0),(0,1),(1,0),(1,1),(2,0),(2,1),(3,0),(3,1),(4,0),(4,1)] = _
  simp only[zc8, List.foldr_cons, List.foldr_nil, jB]; omega
 ·
  show zc8 m g [(0,0),(0,1),(0,2),(1,0),(1,1),(1,2),(2,0),(2,1),(2,2),(3,0),(3,1),(3,2),(4,0),(4,1),(4,2)] = _
  simp only[zc8, List.foldr_cons, List.foldr_nil, jB]; omega
 ·
  show zc8 m g [(0,0),(0,1),(0,2),(0,3),(1,0),(1,1),(1,2),(1,3),(2,0),(2,1),(2,2),(2,3),(3,0),(3,1),(3,2),(3,3),(4,0),(4,1),(4,2),(4,3)] = _
  simp only[zc8, List.foldr_cons, List.foldr_nil, jB]; omega
theorem wI {c:Cod} (h:jA c = true):(1 <= c.fields.length /\ c.fields.length <= 3) /\ 0 <= c.most /\ c.most <= 2:=by
 simp only[jA, zLa, zdh] at h
 omega
theorem zmU {c:Cod} {m:List Int} {g:List (List UInt8)} (hm:wS c m = true) (hg:jX c g = true):(prs m g).length = c.fields.length + 1 /\ ∀ j (h:j < (prs m g).length), ((prs m g)[j]).length = 5 /\ ∀ q (h2:q < ((prs m g)[j]).length), (prs m g)[j][q] = rcv m g (q, j):=by
 obtain ⟨h1, h2⟩:=zdK hg
 have hml:=wU hm
 have hgl:(vV m).length = m.length + 1:=by simp [vV]
 have hpl:(prs m g).length = c.fields.length + 1:=by simp [prs]; omega
 refine ⟨hpl, fun j h=>?_⟩
 have hjg:j < (vV m).length:=by omega
 have hj:j < g.length:=by omega
 have h5:=zcf (h2 _ (List.getElem_mem hj))
 have e:=zrG hjg hj
 have hl:((prs m g)[j]).length = 5:=by rw [e, zfg h5]
 refine ⟨hl, fun q hq=>?_⟩
 have hq5:q < 5:=by omega
 have e2:(prs m g)[j][q] = (five (vV m)[j] g[j])[q]'(by rw [zfg h5]; exact hq5):=by simp only[e]
 rw [e2, zpv h5 hq5, zgs hjg hq5]
 unfold rcv chF
 have e3:g.getD j [] = g[j]:=by rw [List.getD_eq_getElem?_getD, List.getElem?_eq_getElem hj, Option.getD_some]
 have e4:g[j].getD q 0 = g[j][q]'(by omega):=by rw [List.getD_eq_getElem?_getD, List.getElem?_eq_getElem (by omega), Option.getD_some]
 rw [e3, e4]
theorem zgm {c:Cod} {m:List Int} {g:List (List UInt8)} (hc:jA c = true) (hm:wS c m = true) (hg:jX c g = true):((grid c.fields.length).all (fun s=>okP c (rcv m g s)) && decide (0 + zc8 m g (grid c.fields.length) <= c.most)) = zmV c m g:=by
 obtain ⟨hpl, hp⟩:=zmU hm hg
 have hcb:=wI hc
 have hcnt:zkI (prs m g) = jB (c.fields.length + 1) (fun j=>jB 5 (fun q=>wrN (rcv m g (q, j)))):=by
  have:=zgK (L:=prs m g) (F:=fun j q=>rcv m g (q, j)) _ (Nat.le_refl _) (fun j h=>by
   have:=zgl (xs:=(prs m g)[j]) (F:=fun q=>rcv m g (q, j)) 5 (by rw [(hp j h).1]; exact Nat.le_refl _) (hp j h).2
   rwa [List.take_of_length_le (by rw [(hp j h).1]; exact Nat.le_refl _)] at this)
  rwa [List.take_of_length_le (Nat.le_refl _), hpl] at this
 unfold zmV
 rw [zgt hcb.1, zmJ, hcnt, Int.zero_add]
 congr 1
 rw [Bool.eq_iff_iff, List.all_eq_true, List.all_eq_true]
 constructor
 ·
  intro h xs hx
  obtain ⟨j, hj, rfl⟩:=List.mem_iff_getElem.1 hx
  rw [List.all_eq_true]
  intro y hy
  obtain ⟨q, hq, rfl⟩:=List.mem_iff_getElem.1 hy
  rw [(hp j hj).2 q hq]
  exact h (q, j) (zdc.2 ⟨by rw [(hp j hj).1] at hq; exact hq, by omega⟩)
 ·
  intro h
  rintro ⟨q, j⟩ hs
  have hs:=zdc.1 hs
  have hj:j < (prs m g).length:=by rw [hpl]; have:=hs.2; simp only at this; omega
  have h2:=List.all_eq_true.1 (h _ (List.getElem_mem hj))
  have hq:q < ((prs m g)[j]).length:=by rw [(hp j hj).1]; exact hs.1
  have:=h2 _ (List.getElem_mem hq)
  rwa [(hp j hj).2 q hq] at this
def kC (c:Cod) (l:List (List (List UInt8))):List (List Int):=sortL (zvc c l 24 0 0 0 (0, 0, 0) (List.replicate c.fields.length 0))
theorem zg9:∀ {m:List Int}, (∀ x ∈ m, 0 <= x /\ x <= 99999) -> vW m 0 0 = List.replicate m.length 0
 | [], _=>rfl
 | x :: xs, h=>by
  simp only[vW, List.length_cons, List.replicate_succ]
  rw [pv0 (h x (List.mem_cons_self ..)), zg9 (fun y hy=>h y (List.mem_cons_of_mem _ hy))]
theorem zc0 {c:Cod} {l:List (List (List UInt8))} (hc:jA c = true) (hl:l.length <= 3) (hcp:∀ g ∈ l, jX c g = true) {m:List Int}:m ∈ kC c l ↔ wS c m = true /\ ∀ g ∈ l, zmV c m g = true:=by
 have hcb:=wI hc
 unfold kC
 rw [zb9, zfl c l 24 0 0 0 (0, 0, 0) _ m (by omega) (by omega) (by omega) (by unfold yO; omega) (by simp) (by simp [zaj]), zjA hcb.1, ziZ]
 have hpre:wS c m = true -> vW m 0 0 = List.replicate c.fields.length 0:=fun hm=>by
  rw [zg9 (zjV hc hm), wU hm]
 have hone:∀ i, wS c m = true -> (i < l.length -> okS c l m i (grid c.fields.length) 0 = zmV c m (l.getD i [])):=fun i hm hi=>by
  rw [zk8 hi _ _ (by omega)]
  have e:l.getD i [] = l[i]:=by rw [List.getD_eq_getElem?_getD, List.getElem?_eq_getElem hi, Option.getD_some]
  rw [e, zgm hc hm (hcp _ (List.getElem_mem hi))]
 constructor
 ·
  rintro ⟨hm, _, h⟩
  refine ⟨hm, fun g hg=>?_⟩
  obtain ⟨i, hi, rfl⟩:=List.mem_iff_getElem.1 hg
  simp only[zLa] at h
  have e:l.getD i [] = l[i]:=by rw [List.getD_eq_getElem?_getD, List.getElem?_eq_getElem hi, Option.getD_some]
  rw [← e, ← hone i hm hi]
  have:i = 0 ∨ i = 1 ∨ i = 2:=by omega
  rcases this with rfl | rfl | rfl
  ·
   exact h.1
  ·
   exact h.2.1
  ·
   exact h.2.2
 ·
  rintro ⟨hm, h⟩
  refine ⟨hm, hpre hm, ?_⟩
  have key:∀ i, okS c l m i (grid c.fields.length) 0 = true:=fun i=>by
   by_cases hi:i < l.length
   ·
    rw [hone i hm hi]
    have e:l.getD i [] = l[i]:=by rw [List.getD_eq_getElem?_getD, List.getElem?_eq_getElem hi, Option.getD_some]
    rw [e]; exact h _ (List.getElem_mem hi)
   ·
    exact zlH (by omega) _ _
  simp only[key, Bool.and_self]
def zjh (ds:List Int):Int:=ds.foldr (fun x s=>x + s) 0
def vF (ds:List Int) (j:Nat):Int:=if h:j < ds.length then ds[j] else zjh ds % 10
def ql (k n:Nat):List Int:=(List.range k).map fun i=>(n:Int) / (10 ^ (k - 1 - i):Nat) % 10
def zbu (g:List (List UInt8)) (pz:Nat) (ds:List Int):Int:=jB (ds.length + 1) (fun j=>wrN (chF g j pz, vF ds j))
def zfW (c:Cod) (g:List (List UInt8)) (pz:Nat) (ds:List Int):Bool:=(List.range (ds.length + 1)).all fun j=>okP c (chF g j pz, vF ds j)
def zdv (c:Cod) (l:List (List (List UInt8))) (pz:Nat) (ds:List Int):Bool:=l.all fun g=>zfW c g pz ds && decide (zbu g pz ds <= c.most)
def vX (l:List (List (List UInt8))) (pz:Nat) (ds:List Int):List Int:=l.map fun g=>zbu g pz ds
def jl (c:Cod) (l:List (List (List UInt8))) (pz:Nat):List (List Int × List Int):=
 (((List.range (10 ^ c.fields.length)).filter fun n=>zdv c l pz (ql c.fields.length n)).map fun n=>(ql c.fields.length n, vX l pz (ql c.fields.length n)))
def jnR (a b:List Int):List Int:=List.zipWith (fun x y=>10 * x + y) a b
def jnW (a b:List Int):List Int:=List.zipWith (fun x y=>x + y) a b
def jn (c:Cod) (a b:List Int × List Int):Option (List Int × List Int):=if (jnW a.2 b.2).all (fun x=>decide (x <= c.most)) then some (jnR a.1 b.1, jnW a.2 b.2) else none
def fin (c:Cod) (l:List (List (List UInt8))):Nat -> List Int × List Int -> List (List Int)
 | 0, a=>if wS c a.1 then [a.1] else []
 | n + 1, a=>(jl c l (4 - n)).flatMap fun b=>match jn c a b with
  | some x=>fin c l n x
  | none=>[]
def zd6 (pz a:Nat) (now:List Int):Prop:=∀ j (h:j < now.length), 0 <= now[j] /\ now[j] < 10 ^ (if j < a then pz + 1 else pz)
theorem znp {pz a:Nat} {now:List Int} (h:zd6 pz a now) (ha:a < now.length) (hp:pz < 5):0 <= now[a] /\ now[a] <= 9999:=by
 have:=h a ha
 rw [if_neg (by omega)] at this
 have hq:pz = 0 ∨ pz = 1 ∨ pz = 2 ∨ pz = 3 ∨ pz = 4:=by omega
 rcases hq with rfl | rfl | rfl | rfl | rfl <;> (simp at this; omega)
theorem zkS {pz a:Nat} {now:List Int} (h:zd6 pz a now) (ha:a < now.length) {f:Int} (hf:0 <= f /\ f <= 9):zd6 pz (a + 1) (now.set a (10 * now[a] + f)):=by
 intro j hj
 have hj':j < now.length:=by simpa using hj
 have h1:=h j hj'
 rw [List.getElem_set]
 by_cases e:a = j
 ·
  subst e
  rw [if_neg (by omega)] at h1
  rw [if_pos rfl, if_pos (by omega), Int.pow_succ]
  omega
 ·
  rw [if_neg e]
  by_cases h2:j < a
  ·
   rw [if_pos h2] at h1; rw [if_pos (by omega)]; exact h1
  ·
   rw [if_neg h2] at h1; rw [if_neg (by omega)]; exact h1
theorem zkj {pz a:Nat} {now:List Int} (h:zd6 pz a now) (ha:now.length <= a):zd6 (pz + 1) 0 now:=by
 intro j hj
 have:=h j hj
 rw [if_pos (by omega)] at this
 rw [if_neg (by omega)]; exact this
theorem zpj (k:Nat):zd6 0 0 (List.replicate k 0):=by
 intro j hj
 simp
def zjq (n:Int × Int × Int):Prop:=(0 <= n.1 /\ n.1 <= 2) /\ (0 <= n.2.1 /\ n.2.1 <= 2) /\ 0 <= n.2.2 /\ n.2.2 <= 2
theorem zkP {c:Cod} {l:List (List (List UInt8))} {a pz:Nat} {f:Int} {i:Nat} {n:Int} (hc:jA c = true) (h:okQ c l a pz f i n = true) (hn:0 <= n /\ n <= 2):0 <= n + wP l a pz f i /\ n + wP l a pz f i <= 2:=by
 have hb:=zef l a pz f i
 have hcb:=wI hc
 by_cases hi:i < l.length
 ·
  unfold okQ at h
  rw [dif_pos hi, zLa, decide_eq_true_eq] at h
  have e:wP l a pz f i = wrN (chF l[i] a pz, f):=by unfold wP; rw [dif_pos hi]
  have h2:=h.2
  rw [← e] at h2
  omega
 ·
  rw [zcx (by omega)]; omega
theorem zjJ {c:Cod} {l:List (List (List UInt8))} {a pz:Nat} {f:Int} {n:Int × Int × Int} (hc:jA c = true) (h:vN c l a pz f n = true) (hn:zjq n):zjq (plN l a pz f n):=by
 simp only[vN, zLa] at h
 exact ⟨zkP hc h.1 hn.1, zkP hc h.2.1 hn.2.1, zkP hc h.2.2 hn.2.2⟩
theorem zqs (now:List Int):∀ a:Nat, 0 <= zaj now a /\ zaj now a <= 9 * a:=by
 intro a
 have key:∀ (l:List Int) (t:Int), t <= l.foldl (fun s x=>s + x % 10) t /\ l.foldl (fun s x=>s + x % 10) t <= t + 9 * l.length:=by
  intro l
  induction l with
  | nil=>intro t; simp
  | cons x l ih=>
   intro t
   have:=ih (t + x % 10)
   simp only[List.foldl_cons, List.length_cons]
   omega
 have h:=key (now.take a) 0
 have:((now.take a).length:Int) <= a:=by simp; omega
 unfold zaj; omega
def Bd (k:Nat) (g:List (List UInt8)):List (Nat × Nat) -> Nat -> Nat
 | [], _=>1
 | s :: r, b=>if s.2 = k then Bd k g r b else if chF g s.2 s.1 = 63 then 10 * Bd k g r b else Bd k g r b + 9 * (match b with
  | 0=>0
  | b' + 1=>Bd k g r b')
theorem zer (k:Nat) (g:List (List UInt8)):∀ (S:List (Nat × Nat)) (b:Nat), Bd k g S b <= Bd k g S (b + 1)
 | [], _=>Nat.le_refl _
 | s :: r, b=>by
  have h1:=zer k g r b
  simp only[Bd]
  split
  ·
   exact h1
  ·
   split
   ·
    omega
   ·
    cases b with
    | zero=>simp only; omega
    | succ b=>
     have h2:=zer k g r b
     simp only; omega
theorem znb (k:Nat) (g:List (List UInt8)) (S:List (Nat × Nat)) {b b':Nat} (h:b <= b'):Bd k g S b <= Bd k g S b':=by
 induction h with
 | refl=>exact Nat.le_refl _
 | step _ ih=>exact Nat.le_trans ih (zer ..)
def kT (g:List (List UInt8)) (S:List (Nat × Nat)):Nat:=(S.filter fun s=>chF g s.2 s.1 == 63).length
theorem zo5 (k:Nat) (g:List (List UInt8)):∀ (S:List (Nat × Nat)), Bd k g S 0 <= 10 ^ kT g S /\ Bd k g S 1 <= 10 ^ kT g S * (1 + 9 * S.length) /\ Bd k g S 2 <= 10 ^ kT g S * ((1 + 9 * S.length) * (1 + 9 * S.length))
 | []=>by simp [Bd, kT]
 | s :: r=>by
  obtain ⟨h0, h1, h2⟩:=zo5 k g r
  have hH:kT g (s :: r) = if chF g s.2 s.1 = 63 then kT g r + 1 else kT g r:=by
   unfold kT
   rw [List.filter_cons]
   by_cases e:chF g s.2 s.1 = 63 <;> simp [e]
  rw [hH]
  simp only[Bd, List.length_cons]
  generalize hy:1 + 9 * r.length = y at *
  have hy2:1 + 9 * (r.length + 1) = y + 9:=by omega
  rw [hy2]
  have hm:∀ x:Nat, x * ((y + 9) * (y + 9)) = x * (y * y) + 18 * (x * y) + 81 * x:=fun x=>by
   have e1:(y + 9) * (y + 9) = y * y + 18 * y + 81:=by rw [Nat.add_mul, Nat.mul_add]; omega
   have e2:x * (18 * y) = 18 * (x * y):=Nat.mul_left_comm ..
   rw [e1, Nat.mul_add, Nat.mul_add, e2]
   omega
  have hm1:∀ x:Nat, x * (y + 9) = x * y + 9 * x:=fun x=>by rw [Nat.mul_add]; omega
  by_cases e:chF g s.2 s.1 = 63
  ·
   simp only[e, if_true]
   have hp:10 ^ (kT g r + 1) = 10 * 10 ^ kT g r:=by rw [Nat.pow_succ]; omega
   rw [hp, hm, hm1]
   generalize 10 ^ kT g r = x at *
   have e1:10 * x * y = 10 * (x * y):=Nat.mul_assoc ..
   have e2:10 * x * (y * y) = 10 * (x * (y * y)):=Nat.mul_assoc ..
   rw [e1, e2]
   by_cases ek:s.2 = k
   ·
    simp only[ek, if_true]; omega
   ·
    simp only[ek, if_false]; omega
  ·
   simp only[e, if_false]
   rw [hm, hm1]
   generalize 10 ^ kT g r = x at *
   by_cases ek:s.2 = k
   ·
    simp only[ek, if_true]; omega
   ·
    simp only[ek, if_false]; omega
theorem zoY (c:Cod) (hc:jA c = true) (l:List (List (List UInt8))) (hl:0 < l.length):∀ (fu pz a:Nat) (sum:Int) (n:Int × Int × Int) (now:List Int), n.1 <= c.most ->
  (zvc c l fu pz a sum n now).length <= Bd c.fields.length l[0] (stp c.fields.length fu pz a) (c.most - n.1).toNat:=by
 intro fu
 induction fu with
 | zero=>intro pz a sum n now _; simp [zvc]
 | succ fu ih=>
  intro pz a sum n now hn
  simp only[zvc, stp]
  have hstep:∀ f:Int, vN c l a pz f n = true -> (plN l a pz f n).1 <= c.most /\ n.1 <= (plN l a pz f n).1 /\ (rgt (chF l[0] a pz) f = false -> (plN l a pz f n).1 = n.1 + 1):=fun f h=>by
   simp only[vN, zLa] at h
   have h0:=h.1
   unfold okQ at h0
   rw [dif_pos hl, zLa, decide_eq_true_eq] at h0
   have hb:=zef l a pz f 0
   have e:wP l a pz f 0 = wrN (chF l[0] a pz, f):=by unfold wP; rw [dif_pos hl]
   have e2:(plN l a pz f n).1 = n.1 + wP l a pz f 0:=rfl
   have h02:=h0.2
   rw [← e] at h02
   rw [e2]
   refine ⟨h02, by omega, fun hr=>?_⟩
   rw [e]
   unfold wrN; simp only[hr, Bool.false_eq_true, if_false]
  split
  ·
   split <;> simp [Bd]
  ·
   split
   ·
    rename_i ea
    simp only[Bd]
    rw [if_pos ea]
    split
    ·
     rename_i hb
     obtain ⟨h1, h2, _⟩:=hstep _ hb
     have h4:(c.most - (plN l a pz (sum % 10) n).1).toNat <= (c.most - n.1).toNat:=by omega
     exact Nat.le_trans (ih _ _ _ _ _ h1) (znb _ _ _ h4)
    ·
     exact Nat.zero_le _
   ·
    rename_i ea
    simp only[Bd]
    rw [if_neg ea, List.length_flatMap]
    -- each figure's share
    have hsh:∀ f:Nat, vN c l a pz (f:Int) n = true -> (zvc c l fu pz (a + 1) (sum + (f:Int)) (plN l a pz (f:Int) n) (now.set a (10 * now.getD a 0 + (f:Int)))).length <= Bd c.fields.length l[0] (stp c.fields.length fu pz (a + 1)) (c.most - n.1).toNat:=fun f hf=>by
     obtain ⟨h1, h2, _⟩:=hstep _ hf
     have h4:(c.most - (plN l a pz (f:Int) n).1).toNat <= (c.most - n.1).toNat:=by omega
     exact Nat.le_trans (ih _ _ _ _ _ h1) (znb _ _ _ h4)
    have hsh2:∀ f:Nat, vN c l a pz (f:Int) n = true -> rgt (chF l[0] a pz) (f:Int) = false -> (zvc c l fu pz (a + 1) (sum + (f:Int)) (plN l a pz (f:Int) n) (now.set a (10 * now.getD a 0 + (f:Int)))).length <= (match (c.most - n.1).toNat with | 0=>0 | b' + 1=>Bd c.fields.length l[0] (stp c.fields.length fu pz (a + 1)) b'):=fun f hf hr=>by
     obtain ⟨h1, h2, h3⟩:=hstep _ hf
     have h3:=h3 hr
     have:=ih pz (a + 1) (sum + (f:Int)) _ (now.set a (10 * now.getD a 0 + (f:Int))) h1
     rw [h3] at this
     cases hb:(c.most - n.1).toNat with
     | zero=>omega
     | succ b=>
      have e:(c.most - (n.1 + 1)).toNat = b:=by omega
      rw [e] at this
      exact this
    generalize hB:Bd c.fields.length l[0] (stp c.fields.length fu pz (a + 1)) (c.most - n.1).toNat = B at *
    generalize hD:(match (c.most - n.1).toNat with | 0=>0 | b' + 1=>Bd c.fields.length l[0] (stp c.fields.length fu pz (a + 1)) b') = D at *
    generalize hF:(fun (f:Nat)=>(zvc c l fu pz (a + 1) (sum + (f:Int)) (plN l a pz (f:Int) n) (now.set a (10 * now.getD a 0 + (f:Int)))).length) = F at *
    have hF1:∀ f:Nat, vN c l a pz (f:Int) n = true -> F f <= B:=fun f hf=>by rw [← hF]; exact hsh f hf
    have hF2:∀ f:Nat, vN c l a pz (f:Int) n = true -> rgt (chF l[0] a pz) (f:Int) = false -> F f <= D:=fun f hf hr=>by rw [← hF]; exact hsh2 f hf hr
    unfold zaA
    have hsum:∀ (p:Nat -> Bool) (G:Nat -> Nat), (∀ f, p f = true -> F f <= G f) -> (((List.range 10).filter p).map F).sum <= ((List.range 10).map G).sum:=fun p G h=>by
     have:∀ L:List Nat, ((L.filter p).map F).sum <= (L.map G).sum:=fun L=>by
      induction L with
      | nil=>simp
      | cons x L ih=>
       rw [List.filter_cons]
       cases hx:p x with
       | true=>
        have:=h x hx
        simp only[if_true, List.map_cons, List.sum_cons]; omega
       | false=>
        simp only[Bool.false_eq_true, if_false, List.map_cons, List.sum_cons]; omega
     exact this _
    split
    ·
     refine Nat.le_trans (hsum _ (fun _=>B) hF1) ?_
     simp [List.range_succ]; omega
    ·
     rename_i h63
     refine Nat.le_trans (hsum _ (fun f=>if rgt (chF l[0] a pz) (f:Int) = true then B else D) (fun f hf=>?_)) ?_
     ·
      split
      ·
       exact hF1 f hf
      ·
       rename_i hr
       exact hF2 f hf (by simpa using hr)
     ·
      have hr:∀ f:Nat, rgt (chF l[0] a pz) (f:Int) = true ↔ chF l[0] a pz - 48 = (f:Int):=fun f=>by
       unfold rgt; simp [h63]
      simp only[hr]
      have:List.range 10 = [0, 1, 2, 3, 4, 5, 6, 7, 8, 9]:=rfl
      rw [this]
      simp only[List.map_cons, List.map_nil, List.sum_cons, List.sum_nil]
      generalize chF l[0] a pz - 48 = x
      by_cases h0:x = ((0:Nat):Int)
      ·
       subst h0; simp; omega
      by_cases h1:x = ((1:Nat):Int)
      ·
       subst h1; simp; omega
      by_cases h2:x = ((2:Nat):Int)
      ·
       subst h2; simp; omega
      by_cases h3:x = ((3:Nat):Int)
      ·
       subst h3; simp; omega
      by_cases h4:x = ((4:Nat):Int)
      ·
       subst h4; simp; omega
      by_cases h5:x = ((5:Nat):Int)
      ·
       subst h5; simp; omega
      by_cases h6:x = ((6:Nat):Int)
      ·
       subst h6; simp; omega
      by_cases h7:x = ((7:Nat):Int)
      ·
       subst h7; simp; omega
      by_cases h8:x = ((8:Nat):Int)
      ·
       subst h8; simp; omega
      by_cases h9:x = ((9:Nat):Int)
      ·
       subst h9; simp; omega
      rw [if_neg h0, if_neg h1, if_neg h2, if_neg h3, if_neg h4, if_neg h5, if_neg h6, if_neg h7, if_neg h8, if_neg h9]
      -- no figure is right: ten shares of what is left
      have hDB:D <= B:=by
       rw [← hD, ← hB]
       cases (c.most - n.1).toNat with
       | zero=>exact Nat.zero_le _
       | succ b=>exact zer ..
      omega
theorem zjH {c:Cod} {g:List (List UInt8)} (hc:jA c = true) (hg:jX c g = true):kT g (grid c.fields.length) <= 2:=by
 have hcb:=wI hc
 have hcp:=zdK hg
 have hle:hlN g <= 2:=by simp only[jX, zLa, decide_eq_true_eq] at hg; exact hg.2.2
 have h1:∀ k, k <= g.length -> hlN (g.take k) = jB k (fun j=>jB 5 (fun q=>if chF g j q = 63 then 1 else 0)):=fun k=>by
  induction k with
  | zero=>intro _; simp [hlN, jB]
  | succ k ih=>
   intro hk
   have hkl:k < g.length:=by omega
   rw [ze6 hkl, ih (by omega)]
   simp only[jB]
   have h5:=zcf (hcp.2 _ (List.getElem_mem hkl))
   have e1:g.getD k [] = g[k]:=by rw [List.getD_eq_getElem?_getD, List.getElem?_eq_getElem hkl, Option.getD_some]
   have h2:∀ q, q <= 5 -> hl1 (g[k].take q) = jB q (fun q=>if chF g k q = 63 then 1 else 0):=fun q=>by
    induction q with
    | zero=>intro _; simp [hl1, jB]
    | succ q ih=>
     intro hq
     have hql:q < g[k].length:=by omega
     rw [zeX hql, ih (by omega)]
     simp only[jB]
     have e2:chF g k q = (g[k][q].toNat:Int):=by
      unfold chF
      rw [e1, List.getD_eq_getElem?_getD, List.getElem?_eq_getElem hql, Option.getD_some]
     rw [e2]
     congr 1
     by_cases e:g[k][q].toNat = 63
     ·
      rw [if_pos e, if_pos (by omega)]
     ·
      rw [if_neg e, if_neg (by omega)]
   have:=h2 5 (by omega)
   rw [List.take_of_length_le (by omega)] at this
   rw [this]
   rfl
 have h2:=h1 g.length (Nat.le_refl _)
 rw [List.take_of_length_le (Nat.le_refl _)] at h2
 have hgl:g.length = c.fields.length + 1:=by omega
 rw [h2, hgl] at hle
 have key:∀ (S:List (Nat × Nat)), (kT g S:Int) = S.foldr (fun s t=>(if chF g s.2 s.1 = 63 then (1:Int) else 0) + t) 0:=fun S=>by
  induction S with
  | nil=>rfl
  | cons s S ih=>
   simp only[List.foldr_cons, ← ih]
   unfold kT
   rw [List.filter_cons]
   by_cases e:chF g s.2 s.1 = 63
   ·
    simp [e]; omega
   ·
    simp [e]
 have:(kT g (grid c.fields.length):Int) <= 2:=by
  rw [key]
  have hk:c.fields.length = 1 ∨ c.fields.length = 2 ∨ c.fields.length = 3:=by omega
  rcases hk with hk | hk | hk
  ·
   rw [hk] at hle ⊢
   show List.foldr _ _ [(0,0),(0,1),(1,0),(1,1),(2,0),(2,1),(3,0),(3,1),(4,0),(4,1)] <= _
   simp only[jB, List.foldr_cons, List.foldr_nil] at hle ⊢; omega
  ·
   rw [hk] at hle ⊢
   show List.foldr _ _ [(0,0),(0,1),(0,2),(1,0),(1,1),(1,2),(2,0),(2,1),(2,2),(3,0),(3,1),(3,2),(4,0),(4,1),(4,2)] <= _
   simp only[jB, List.foldr_cons, List.foldr_nil] at hle ⊢; omega
  ·
   rw [hk] at hle ⊢
   show List.foldr _ _ [(0,0),(0,1),(0,2),(0,3),(1,0),(1,1),(1,2),(1,3),(2,0),(2,1),(2,2),(2,3),(3,0),(3,1),(3,2),(3,3),(4,0),(4,1),(4,2),(4,3)] <= _
   simp only[jB, List.foldr_cons, List.foldr_nil] at hle ⊢; omega
 omega
theorem zfj {c:Cod} {l:List (List (List UInt8))} (hc:jA c = true) (hl:0 < l.length) (hcp:∀ g ∈ l, jX c g = true):(zvc c l 24 0 0 0 (0, 0, 0) (List.replicate c.fields.length 0)).length <= 4000000:=by
 have hcb:=wI hc
 have h1:=zoY c hc l hl 24 0 0 0 (0, 0, 0) (List.replicate c.fields.length 0) (by omega)
 rw [zjA hcb.1] at h1
 have h2:=zjH hc (hcp _ (List.getElem_mem hl))
 have h3:=znb c.fields.length l[0] (grid c.fields.length) (b:=(c.most - 0).toNat) (b':=2) (by omega)
 have h4:=(zo5 c.fields.length l[0] (grid c.fields.length)).2.2
 have h5:(grid c.fields.length).length <= 20:=by
  have hk:c.fields.length = 1 ∨ c.fields.length = 2 ∨ c.fields.length = 3:=by omega
  rcases hk with hk | hk | hk <;> (rw [hk]; decide)
 have h6:10 ^ kT l[0] (grid c.fields.length) <= 10 ^ 2:=Nat.pow_le_pow_right (by omega) h2
 have h7:(1 + 9 * (grid c.fields.length).length) * (1 + 9 * (grid c.fields.length).length) <= 181 * 181:=Nat.mul_le_mul (by omega) (by omega)
 have h8:=Nat.mul_le_mul h6 h7
 exact Nat.le_trans h1 (Nat.le_trans h3 (Nat.le_trans h4 (Nat.le_trans h8 (by decide))))
end Go.Av
end
