import Derived.Test.YtgmbdadkbominaaGreatDoorWiD
import Derived.Test.YtgmbdadkbominaaGreatDoorPlatE
import Derived.Test.YtgmbdadkbominaaGreatDoorPlatJ
set_option linter.unusedVariables false
set_option linter.unusedSimpArgs false
section
namespace Go.Av
namespace Wr
open Go.Proofs
set_option maxRecDepth 100000
set_option maxHeartbeats 1000000
variable {G:Glob}
theorem kR:tyIs Tryz.prog 289 true 4 = true:=by kernel_rfl
theorem zt8 (b:Bool):b = false ∨ b = true:=by cases b <;> simp
def plX (c:Cod) (l:List (List (List UInt8))) (at' pz:Nat) (f:Int) (n:Int × Int × Int) (x:AV):AV:=if ve c l at' pz f n then x else .top
theorem f137 (c:Cod) (l:List (List (List UInt8))) (n:Int × Int × Int) (at' pz:Nat) (f:Int) (hc:wL c = true) (hl:l.length <= 3) (hcp:∀ g ∈ l, vI c g = true) (hat:at' <= c.fields.length) (hpl:pz < 5) (hf:0 <= f /\ f <= 9) (hn:0 <= n.1 /\ n.1 <= 1000 /\ 0 <= n.2.1 /\ n.2.1 <= 1000 /\ 0 <= n.2.2 /\ n.2.2 <= 1000):ACall Tryz.prog G 235 [.agg (vK c l), .agg (eCn n), ei (at':Int), ei (pz:Int), ei f] (.tup [.agg [plX c l at' pz f n (ei (plN l at' pz f n).1), plX c l at' pz f n (ei (plN l at' pz f n).2.1), plX c l at' pz f n (ei (plN l at' pz f n).2.2)], .v (.bool (ve c l at' pz f n))]):=by
 cases h:ve c l at' pz f n with
 | true=>
  have:=zqB (G:=G) c l n at' pz f hc hl hcp hat hpl hf hn h
  simp only[plX, h, if_true]
  exact this
 | false=>
  have:=zpU (G:=G) c l n at' pz f hc hl hcp hat hpl hf hn h
  simp only[plX, h, Bool.false_eq_true, if_false]
  exact this
def xm (f:Nat -> Bool) (k:Nat):Nat:=((List.range k).filter f).length
theorem yV (f:Nat -> Bool) (k:Nat):xm f (k + 1) = if f k then xm f k + 1 else xm f k:=by
 unfold xm
 rw [List.range_succ, List.filter_append]
 cases h:f k <;> simp [h]
theorem zeg {f:Nat -> Bool}:∀ {n k:Nat}, k < n -> f k = true -> ((List.range n).filter f)[xm f k]? = some k:=by
 intro n
 induction n with
 | zero=>intro k h; omega
 | succ n ih=>
  intro k hk hf
  rw [List.range_succ, List.filter_append]
  by_cases h:k < n
  ·rw [List.getElem?_append_left]
   ·exact ih h hf
   ·have:=ih h hf
    exact (zLg this).1
  ·have:k = n:=by omega
   subst this
   rw [List.getElem?_append_right (by unfold xm; omega)]
   simp [xm, hf]
theorem zaj {P:Program} {C:Cx P G} {ph:Ph} {st st':ASt} {Q:Exit -> Ph -> ASt -> Prop} (hw:Weak st st') {c:Code} (h:qW C c ph st' Q):qW C c ph st Q:=fun w0 ok0 a w hc hs=>h w0 ok0 a w hc (hw w0 ok0 a w hs)
def zaU (c:Cod) (l:List (List (List UInt8))) (at' pz:Nat) (n:Int × Int × Int):List Nat:=(List.range 10).filter fun f=>ve c l at' pz (f:Int) n
def zmQ (c:Cod) (l:List (List (List UInt8))) (at' pz:Nat) (n:Int × Int × Int):List (List AV):=(zaU c l at' pz n).map fun (f:Nat)=>[ei (f:Int), .agg (eCn (plN l at' pz (f:Int) n))]
theorem zqk {c:Cod} {l:List (List (List UInt8))} {at' pz:Nat} {n:Int × Int × Int} {k:Nat} (hk:k < 10) (hb:ve c l at' pz (k:Int) n = true):(zmQ c l at' pz n)[xm (fun f=>ve c l at' pz (f:Int) n) k]? = some [ei (k:Int), .agg (eCn (plN l at' pz (k:Int) n))]:=by
 unfold zmQ zaU
 rw [List.getElem?_map, zeg (f:=fun f=>ve c l at' pz (f:Int) n) hk hb]
 rfl
theorem znX {c:Cod} {l:List (List (List UInt8))} {at' pz:Nat} {n:Int × Int × Int}:(zmQ c l at' pz n).length = xm (fun f=>ve c l at' pz (f:Int) n) 10:=by simp [zmQ, zaU, xm]
theorem zoS {c:Cod} {l:List (List (List UInt8))} {at' pz:Nat} {f:Int} {n:Int × Int × Int} (h:ve c l at' pz f n = true):[plX c l at' pz f n (ei (plN l at' pz f n).1), plX c l at' pz f n (ei (plN l at' pz f n).2.1), plX c l at' pz f n (ei (plN l at' pz f n).2.2)] = eCn (plN l at' pz f n):=by
 simp only[plX, h, if_true]; rfl
theorem zsR (c:Cod) (l:List (List (List UInt8))) (n:Int × Int × Int) (at' pz:Nat) (hc:wL c = true) (hl:l.length <= 3) (hcp:∀ g ∈ l, vI c g = true) (hat:at' <= c.fields.length) (hpl:pz < 5) (hn:0 <= n.1 /\ n.1 <= 1000 /\ 0 <= n.2.1 /\ n.2.1 <= 1000 /\ 0 <= n.2.2 /\ n.2.2 <= 1000):zcM Tryz.prog G 282 [] [.ptr (vK c l), .ptr (eCn n), .ptr [ei (at':Int)], .ptr [ei (pz:Int)]] (zmQ c l at' pz n):=by
 refine ze2 (qs:=(zmQ c l at' pz n)) Tryz.func282 Y (by kernel_rfl) Y Y (fun C hC=>?_)
 refine jU ?_
 refine yf ?_
 refine zx (zf (zh Y Y) (zM ?_))
 refine qE ?_
 refine xG ?_
 refine zeM (ι:={ k:Nat // k <= 10 }) (fun k=>⟨Tryz.f282.ntmps, frL [(0, .pub (.v (.func (.yield C.l) #[] #[]))), (1, .pub (.ptr (vK c l))), (2, .pub (.ptr (eCn n))), (3, .pub (.ptr [ei (at':Int)])), (4, .pub (.ptr [ei (pz:Int)])), (9, I (k.1:Int))], []⟩) (fun k=>.on (xm (fun f=>ve c l at' pz (f:Int) n) k.1)) (fun k=>10 - k.1) (⟨0, by omega⟩) Y ?_ ?_
 ·exact zy _ ⟨Y, Y, Y, Y, Y, Y, trivial⟩ (Y)
 ·rintro ⟨k, hk⟩
  dsimp only
  refine jU ?_
  refine yf ?_
  refine zx (zf (qx Y Y Y) (zM ?_))
  refine qE ?_
  refine jU ?_
  refine vW Y (fun h0=>?_) (fun h0=>?_)
  ·have hlt:k < 10:=by simp at h0; omega
   refine y5 ?_
   refine qE ?_
   refine jU ?_
   refine xG ?_
   refine jU ?_
   refine yf ?_
   refine zx (zf (zh Y Y) (zf (zg Y Y) (zM ?_)))
   refine qE ?_
   refine jU ?_
   refine yf ?_
   refine zx (zf (zK Y Y kR (by exact zLb Y)) (zf (zK Y Y qZ (by exact zLb Y)) (zf (zl Y Y Y ty3) (zf (zl Y Y Y ty3) (zf (zh Y Y) (zf (zB (av:=[_, _, _, _, _]) Y ⟨Y, Y, Y, Y, Y, trivial⟩ (f137 c l n at' pz (k:Int) hc hl hcp hat hpl (by omega) hn)) (zf (zI Y Y) (zf (zU Y Y Y) (zf (zU Y Y Y) ?_)))))))))
   refine qP  Y Y Y Y Y Y Y zjA qZ Y (by rfl) (zQ Y) Y ?_
   refine zf (zg Y Y) (zM ?_)
   refine qE ?_
   refine jU ?_
   refine Or.elim (zt8 (ve c l at' pz (k:Int) n)) (fun hb=>?_) (fun hb=>?_)
   ·refine zaj (zy (mem':=[]) [(0, .pub (.v (.func (.yield C.l) #[] #[]))), (1, .pub (.ptr (vK c l))), (2, .pub (.ptr (eCn n))), (3, .pub (.ptr [ei (at':Int)])), (4, .pub (.ptr [ei (pz:Int)])), (6, I (k:Int)), (8, B false), (9, I (k:Int))] ⟨Y, Y, Y, Y, Y, Y, congrArg B hb, Y, trivial⟩ Y) ?_
    refine yT ?_
    refine vX Y Y (zh Y Y) ?_
    refine vX Y Y (zh Y Y) ?_
    refine qN (x:=.pub .top) Y Y Y (fun h=>absurd h (by decide)) ?_
    refine qN (x:=.pub .top) Y Y Y (fun h=>absurd h (by decide)) ?_
    refine qN (x:=.pub .top) Y Y Y (fun h=>absurd h (by decide)) ?_
    refine xJ (q:=[]) (c:=false) Y Y Y Y (fun h=>absurd h (by decide)) (fun h=>absurd h (by decide)) (fun h=>absurd h (by decide)) Y Y Y Y Y (fun _=>?_) (fun h=>absurd h (by decide)) (fun h=>absurd h (by decide))
    refine qN (x:=.pub .top) Y Y Y (fun h=>absurd h (by decide)) ?_
    refine vX Y Y (yZ Y Y (fun h=>absurd h (by decide)) (fun _=>rfl)) ?_
    refine zas ?_
    refine qE ?_
    refine vW (b:=false) Y (fun h=>absurd h (by decide)) (fun _=>?_)
    refine y5 ?_
    refine yS ?_
    refine qE ?_
    refine yf ?_
    refine zx (zf (zW Y Y Y ⟨by omega, by omega⟩) (zf (zh Y Y) (zM ?_)))
    exact ⟨⟨k + 1, by omega⟩, by dsimp only; omega, by simp only[yV, hb]; rfl, zy _ ⟨Y, Y, Y, Y, Y, Y, trivial⟩ Y⟩
   ·refine zaj (zy (mem':=[]) [(0, .pub (.v (.func (.yield C.l) #[] #[]))), (1, .pub (.ptr (vK c l))), (2, .pub (.ptr (eCn n))), (3, .pub (.ptr [ei (at':Int)])), (4, .pub (.ptr [ei (pz:Int)])), (6, I (k:Int)), (7, .pub (.ptr (eCn (plN l at' pz (k:Int) n)))), (8, B true), (9, I (k:Int))] ⟨Y, Y, Y, Y, Y, Y, (congrArg (fun z=>EV.pub (.ptr z)) (zoS hb)), congrArg B hb, Y, trivial⟩ Y) ?_
    refine yT ?_
    refine vX Y Y (zh Y Y) ?_
    refine vX Y Y (zh Y Y) ?_
    refine qN Y Y Y (fun _=>zh Y Y) ?_
    refine qN Y Y Y (fun _=>zh Y Y) ?_
    refine qN Y Y Y (fun _=>zK Y Y qZ (by exact zLb Y)) ?_
    refine xJ (q:=[ei (k:Int), .agg (eCn (plN l at' pz (k:Int) n))]) (c:=true) Y Y Y Y (fun _=>rfl) (fun _=>rfl) (fun _=>by rw [hC]; exact zqk (by omega) hb) Y Y Y Y Y (fun h=>absurd h (by decide)) (fun _=>?_) (fun _=>?_)
    ·refine qN Y Y Y (fun _=>qJ Y Y) ?_
     refine vX Y Y (yZ Y Y (fun _=>rfl) (fun h=>absurd h (by decide))) ?_
     refine zas ?_
     refine qE ?_
     refine vW (b:=false) Y (fun h=>absurd h (by decide)) (fun _=>?_)
     refine y5 ?_
     refine yS ?_
     refine qE ?_
     refine yf ?_
     refine zx (zf (zW Y Y Y ⟨by omega, by omega⟩) (zf (zh Y Y) (zM ?_)))
     exact ⟨⟨k + 1, by omega⟩, by dsimp only; omega, by simp only[yV, hb]; rfl, zy _ ⟨Y, Y, Y, Y, Y, Y, trivial⟩ Y⟩
    ·refine qN Y Y Y (fun _=>qJ Y Y) ?_
     refine vX Y Y (yZ Y Y (fun _=>rfl) (fun h=>absurd h (by decide))) ?_
     refine zas ?_
     refine qE ?_
     refine vW (b:=true) Y (fun _=>?_) (fun h=>absurd h (by decide))
     refine zhR ?_
     refine zc9 ?_
     refine zc1 ?_
     refine zc1 ?_
     refine zc9 ?_
     exact ⟨.inr Y, Y, .inr ⟨_, Y⟩⟩
  ·have hge:10 <= k:=by simp at h0; omega
   refine zeV ?_
   refine zbc ?_
   refine zbc ?_
   refine zeP ?_
   exact ⟨.inl Y, Y, .inl (by rw [znX, show 10 = k from by omega])⟩
theorem f138 (c:Cod) (l:List (List (List UInt8))) (n:Int × Int × Int) (at' pz:Int):ACall Tryz.prog G 236 [.agg (vK c l), .agg (eCn n), ei at', ei pz] (.fn 282 [] [.ptr (vK c l), .ptr (eCn n), .ptr [ei at'], .ptr [ei pz]]):=by
 refine zO Tryz.func236 Y (by kernel_rfl) Y ?_
 refine zn (zf (ql Y (zQ Y)) (zf (ql Y (zQ Y)) (zf (ql (cs:=[_]) Y (qU Y)) (zf (ql (cs:=[_]) Y (qU Y)) (zf (zg Y Y) (zo (zn (zf (wC (fs:=[]) (cs:=[_, _, _, _]) Y Y Y) ?_))))))))
 refine zf (qG Y Y) (zo (zN ?_))
 exact ⟨.inr Y, AVle.refl _⟩
end Wr
end Go.Av
end
section
namespace Go.Av
namespace Wr
open Go.Proofs
def dg (m:List Int) (q j:Nat):Int:=if h:j < m.length then dig m[j] q else kP m q % 10
theorem zn7 {m:List Int} {q j:Nat} (h:j < m.length):dg m q j = dig m[j] q:=by unfold dg; rw [dif_pos h]
theorem zrl {m:List Int} {q j:Nat} (h:m.length <= j):dg m q j = kP m q % 10:=by unfold dg; rw [dif_neg (by omega)]
theorem zno {m:List Int} {j q:Nat} (hj:j < (ww m).length) (hq:q < 5):zd5 (ww m)[j] q = dg m q j:=by
 have hl:(ww m).length = m.length + 1:=by simp [ww]
 by_cases h:j < m.length
 ·rw [zn7 h]
  have e:(ww m)[j] = jG m[j]:=by simp [ww, h]
  rw [e]
  match q, hq with
  | 0, _=>rfl
  | 1, _=>rfl
  | 2, _=>rfl
  | 3, _=>rfl
  | 4, _=>rfl
 ·have hj':j = m.length:=by omega
  subst hj'
  rw [zrl (Nat.le_refl _)]
  have e:(ww m)[m.length]'hj = chk m:=by simp [ww]
  rw [e, ← zl2]
  simp only[jG, ckN]
  match q, hq with
  | 0, _=>show _ / 10 / 10 / 10 / 10 % 10 = _; omega
  | 1, _=>show _ / 10 / 10 / 10 % 10 = _; omega
  | 2, _=>show _ / 10 / 10 % 10 = _; omega
  | 3, _=>show _ / 10 % 10 = _; omega
  | 4, _=>show _ % 10 = _; omega
def pv (x:Int) (p:Nat):Int:=dv x (5 - p)
theorem pv5 (x:Int):pv x 5 = x:=rfl
theorem ziz (x:Int) {p:Nat} (h:p < 5):pv x p = pv x (p + 1) / 10 /\ dig x p = pv x (p + 1) % 10:=by
 match p, h with
 | 0, _=>exact ⟨rfl, rfl⟩
 | 1, _=>exact ⟨rfl, rfl⟩
 | 2, _=>exact ⟨rfl, rfl⟩
 | 3, _=>exact ⟨rfl, rfl⟩
 | 4, _=>exact ⟨rfl, rfl⟩
theorem zpS (x:Int) {p:Nat} (h:p < 5):pv x (p + 1) = 10 * pv x p + dig x p:=by
 obtain ⟨h1, h2⟩:=ziz x h; omega
theorem pv0 {x:Int} (h:0 <= x /\ x <= 99999):pv x 0 = 0:=by show x / 10 / 10 / 10 / 10 / 10 = 0; omega
def ye:List Int -> Nat -> Nat -> List Int
 | [], _, _=>[]
 | x :: xs, p, 0=>pv x p :: ye xs p 0
 | x :: xs, p, a + 1=>pv x (p + 1) :: ye xs p a
theorem kL:∀ (m:List Int) (p a:Nat), (ye m p a).length = m.length
 | [], _, _=>rfl
 | _ :: xs, p, 0=>by simp [ye, kL xs p 0]
 | _ :: xs, p, a + 1=>by simp [ye, kL xs p a]
theorem zd9:∀ (m:List Int) (p a:Nat), m.length <= a -> ye m p a = ye m (p + 1) 0
 | [], _, _, _=>rfl
 | _ :: _, _, 0, h=>by simp at h
 | x :: xs, p, a + 1, h=>by simp only[ye]; rw [zd9 xs p a (by simpa using h)]
theorem znJ:∀ m:List Int, ye m 5 0 = m
 | []=>rfl
 | x :: xs=>by simp only[ye, pv5]; rw [znJ xs]
theorem za5:∀ {m:List Int} {p a j:Nat} (h:j < m.length), (ye m p a)[j]'(by rw [kL]; exact h) = pv m[j] (if j < a then p + 1 else p)
 | x :: xs, p, 0, 0, _=>rfl
 | x :: xs, p, 0, j + 1, h=>by
  simp only[ye, List.getElem_cons_succ]
  rw [za5 (by simpa using h)]; simp
 | x :: xs, p, a + 1, 0, _=>by simp [ye]
 | x :: xs, p, a + 1, j + 1, h=>by
  simp only[ye, List.getElem_cons_succ]
  rw [za5 (by simpa using h)]; simp
theorem zmX {m:List Int} {p a:Nat} (h:a < m.length) (hp:p < 5):ye m p (a + 1) = (ye m p a).set a (10 * pv m[a] p + dig m[a] p):=by
 refine List.ext_getElem (by simp [kL]) fun j h1 h2=>?_
 have hj:j < m.length:=by simpa [kL] using h1
 rw [za5 hj, List.getElem_set]
 by_cases e:a = j
 ·subst e
  rw [if_pos rfl, if_pos (by omega), zpS _ hp]
 ·rw [if_neg e, za5 hj]
  by_cases h3:j < a
  ·rw [if_pos h3, if_pos (by omega)]
  ·rw [if_neg h3, if_neg (by omega)]
theorem znn {m now:List Int} {p a:Nat} {f:Int} (h:a < m.length) (hp:p < 5) (hl:now.length = m.length) (hf:0 <= f /\ f <= 9) (e:ye m p (a + 1) = now.set a (10 * (now.getD a 0) + f)):ye m p a = now /\ f = dig m[a] p:=by
 have ha:a < now.length:=by omega
 have hg:now.getD a 0 = now[a]:=by simp [List.getD_eq_getElem?_getD, List.getElem?_eq_getElem ha]
 have key:∀ j (hj:j < m.length), pv m[j] (if j < a + 1 then p + 1 else p) = if a = j then 10 * now[a] + f else now[j]'(by omega):=fun j hj=>by
  have h1:=za5 (p:=p) (a:=a + 1) hj
  rw [← h1]
  simp only[e, hg]
  rw [List.getElem_set]
 have ka:=key a h
 rw [if_pos (by omega), if_pos rfl] at ka
 obtain ⟨h1, h2⟩:=ziz m[a] hp
 refine ⟨List.ext_getElem (by rw [kL, hl]) fun j h3 h4=>?_, by omega⟩
 have hj:j < m.length:=by rwa [kL] at h3
 rw [za5 hj]
 by_cases ej:a = j
 ·subst ej
  rw [if_neg (by omega)]; omega
 ·have:=key j hj
  rw [if_neg ej] at this
  rw [← this]
  by_cases h5:j < a
  ·rw [if_pos h5, if_pos (by omega)]
  ·rw [if_neg h5, if_neg (by omega)]
def yc (c:Cod) (l:List (List (List UInt8))):Nat -> Nat -> Nat -> Int -> Int × Int × Int -> List Int -> List (List Int)
 | 0, _, _, _, _, _=>[]
 | fu + 1, pz, a, sum, n, now=>
  if pz = 5 then (if msgB c now then [now] else [])
  else if a = c.fields.length then (if ve c l a pz (sum % 10) n then yc c l fu (pz + 1) 0 0 (plN l a pz (sum % 10) n) now else [])
  else (zaU c l a pz n).flatMap fun (f:Nat)=>yc c l fu pz (a + 1) (sum + (f:Int)) (plN l a pz (f:Int) n) (now.set a (10 * now.getD a 0 + (f:Int)))
def stp (k:Nat):Nat -> Nat -> Nat -> List (Nat × Nat)
 | 0, _, _=>[]
 | fu + 1, p, a=>if p = 5 then [] else (p, a) :: (if a = k then stp k fu (p + 1) 0 else stp k fu p (a + 1))
def zkZ (c:Cod) (l:List (List (List UInt8))) (m:List Int):List (Nat × Nat) -> Int × Int × Int -> Bool
 | [], _=>true
 | s :: r, n=>ve c l s.2 s.1 (dg m s.1 s.2) n && zkZ c l m r (plN l s.2 s.1 (dg m s.1 s.2) n)
def zb7 (now:List Int) (a:Nat):Int:=(now.take a).foldl (fun s x=>s + x % 10) 0
theorem zhw {now:List Int} {a:Nat} (h:a < now.length):zb7 now (a + 1) = zb7 now a + now[a] % 10:=by
 unfold zb7; rw [List.take_succ_eq_append_getElem h, List.foldl_append]; rfl
theorem zja {now:List Int} {a:Nat} {x:Int}:zb7 (now.set a x) a = zb7 now a:=by
 unfold zb7; rw [List.take_set_of_le (by omega)]
theorem zmw:∀ (m:List Int) (p:Nat), p < 5 -> zb7 (ye m p m.length) m.length = kP m p:=fun m p hp=>by
 have e:zb7 (ye m p m.length) m.length = (ye m p m.length).foldl (fun s x=>s + x % 10) 0:=by
  unfold zb7; rw [List.take_of_length_le (by rw [kL]; exact Nat.le_refl _)]
 rw [e, zd9 m p _ (Nat.le_refl _)]
 unfold kP
 have key:∀ (m:List Int) (t:Int), (ye m (p + 1) 0).foldl (fun s x=>s + x % 10) t = m.foldl (fun s n=>s + dig n p) t:=by
  intro m
  induction m with
  | nil=>intro t; rfl
  | cons x xs ih=>
   intro t
   simp only[ye, List.foldl_cons]
   rw [ih, (ziz x hp).2]
 exact key m 0
theorem zjr {c:Cod} {l:List (List (List UInt8))} {a pz:Nat} {n:Int × Int × Int} {f:Nat}:f ∈ zaU c l a pz n ↔ f < 10 /\ ve c l a pz (f:Int) n = true:=by
 simp [zaU]
def zaz (k pz a:Nat):Nat:=(5 - pz) * (k + 1) + (k - a) + 1
theorem zom (c:Cod) (l:List (List (List UInt8))):∀ (fu pz a:Nat) (sum:Int) (n:Int × Int × Int) (now m:List Int), pz <= 5 -> a <= c.fields.length -> (pz = 5 -> a = 0) -> zaz c.fields.length pz a <= fu -> now.length = c.fields.length -> sum = zb7 now a ->
  (m ∈ yc c l fu pz a sum n now ↔ msgB c m = true /\ ye m pz a = now /\ zkZ c l m (stp c.fields.length fu pz a) n = true):=by
 intro fu
 induction fu with
 | zero=>intro pz a sum n now m _ _ _ h; unfold zaz at h; omega
 | succ fu ih=>
  intro pz a sum n now m hp ha h5 hfu hl hs
  simp only[yc, stp]
  by_cases e5:pz = 5
  ·subst e5
   have:=h5 rfl; subst this
   rw [if_pos rfl, if_pos rfl, znJ]
   simp only[zkZ, and_true]
   by_cases hm:msgB c now = true
   ·rw [if_pos hm]
    simp only[List.mem_singleton]
    constructor
    ·rintro rfl; exact ⟨hm, rfl⟩
    ·exact fun h=>h.2
   ·rw [if_neg hm]
    simp only[List.not_mem_nil, false_iff, not_and]
    rintro h rfl; exact hm h
  ·rw [if_neg e5, if_neg e5]
   have hp5:pz < 5:=by omega
   have hmu:(5 - pz) * (c.fields.length + 1) = (5 - (pz + 1)) * (c.fields.length + 1) + (c.fields.length + 1):=by
    rw [← Nat.succ_mul]; congr 1; omega
   simp only[zkZ]
   by_cases ea:a = c.fields.length
   ·rw [if_pos ea, if_pos ea]
    have ih':=ih (pz + 1) 0 0 (plN l a pz (sum % 10) n) now m (by omega) (by omega) (fun _=>rfl) (by unfold zaz at hfu ⊢; omega) hl (by simp [zb7])
    have hD:msgB c m = true -> ye m pz a = now -> dg m pz a = sum % 10:=fun hm hpre=>by
     have hml:=yL hm
     rw [zrl (by omega), hs, ← hpre, ea, ← hml, zmw m pz hp5]
    have hP:m.length = c.fields.length -> ye m pz a = ye m (pz + 1) 0:=fun hm=>zd9 m pz a (by omega)
    constructor
    ·intro h
     split at h
     ·rename_i hb
      rw [ih'] at h
      have hpre:ye m pz a = now:=by rw [hP (yL h.1)]; exact h.2.1
      have hd:=hD h.1 hpre
      refine ⟨h.1, hpre, ?_⟩
      rw [hd, hb, Bool.true_and]; exact h.2.2
     ·cases h
    ·rintro ⟨h1, h2, h3⟩
     have hd:=hD h1 h2
     rw [hd, zLa] at h3
     rw [if_pos h3.1, ih']
     exact ⟨h1, by rw [← hP (yL h1)]; exact h2, h3.2⟩
   ·rw [if_neg ea, if_neg ea]
    have halt:a < c.fields.length:=by omega
    have han:a < now.length:=by omega
    have hg:now.getD a 0 = now[a]:=by simp [List.getD_eq_getElem?_getD, List.getElem?_eq_getElem han]
    have ih':∀ f:Nat, f < 10 -> (m ∈ yc c l fu pz (a + 1) (sum + (f:Int)) (plN l a pz (f:Int) n) (now.set a (10 * now.getD a 0 + (f:Int))) ↔ msgB c m = true /\ ye m pz (a + 1) = now.set a (10 * now.getD a 0 + (f:Int)) /\ zkZ c l m (stp c.fields.length fu pz (a + 1)) (plN l a pz (f:Int) n) = true):=fun f hf=>
     ih pz (a + 1) _ _ _ m hp (by omega) (fun h=>absurd h e5) (by unfold zaz at hfu ⊢; omega) (by simpa using hl) (by
      rw [zhw (by simpa using han), zja, hs]
      simp only[List.getElem_set_self]
      omega)
    simp only[List.mem_flatMap, zjr]
    constructor
    ·rintro ⟨f, ⟨hf, hb⟩, h⟩
     rw [ih' f hf] at h
     have hml:=yL h.1
     obtain ⟨k1, k2⟩:=znn (a:=a) (by omega) hp5 (by omega) (by omega) h.2.1
     refine ⟨h.1, k1, ?_⟩
     rw [zn7 (show a < m.length by omega), ← k2, hb, Bool.true_and]
     exact h.2.2
    ·rintro ⟨h1, h2, h3⟩
     have hml:=yL h1
     have hd:dg m pz a = dig (m[a]'(by omega)) pz:=zn7 (by omega)
     have hb:=je (n:=m[a]'(by omega)) pz
     have hf:(((dig (m[a]'(by omega)) pz).toNat:Nat):Int) = dig (m[a]'(by omega)) pz:=by omega
     rw [hd, zLa] at h3
     refine ⟨(dig (m[a]'(by omega)) pz).toNat, ⟨by omega, by rw [hf]; exact h3.1⟩, ?_⟩
     rw [ih' _ (by omega), hf]
     refine ⟨h1, ?_, h3.2⟩
     rw [zmX (by omega) hp5, h2, hg]
     congr 2
     have:=za5 (m:=m) (p:=pz) (a:=a) (j:=a) (by omega)
     rw [if_neg (by omega)] at this
     rw [← this]
     simp only[h2]
def okS (c:Cod) (l:List (List (List UInt8))) (m:List Int) (i:Nat):List (Nat × Nat) -> Int -> Bool
 | [], _=>true
 | s :: r, x=>okQ c l s.2 s.1 (dg m s.1 s.2) i x && okS c l m i r (x + wP l s.2 s.1 (dg m s.1 s.2) i)
theorem zjz (c:Cod) (l:List (List (List UInt8))) (m:List Int):∀ (S:List (Nat × Nat)) (n:Int × Int × Int), zkZ c l m S n = (okS c l m 0 S n.1 && (okS c l m 1 S n.2.1 && okS c l m 2 S n.2.2))
 | [], _=>rfl
 | s :: r, n=>by
  simp only[zkZ, okS, zjz c l m r, ve, plN]
  cases okQ c l s.2 s.1 (dg m s.1 s.2) 0 n.1 <;> cases okQ c l s.2 s.1 (dg m s.1 s.2) 1 n.2.1 <;> cases okQ c l s.2 s.1 (dg m s.1 s.2) 2 n.2.2 <;>
   cases okS c l m 0 r (n.1 + wP l s.2 s.1 (dg m s.1 s.2) 0) <;> cases okS c l m 1 r (n.2.1 + wP l s.2 s.1 (dg m s.1 s.2) 1) <;> cases okS c l m 2 r (n.2.2 + wP l s.2 s.1 (dg m s.1 s.2) 2) <;> rfl
theorem zl8 {c:Cod} {l:List (List (List UInt8))} {m:List Int} {i:Nat} (h:l.length <= i):∀ (S:List (Nat × Nat)) (x:Int), okS c l m i S x = true
 | [], _=>rfl
 | s :: r, x=>by simp only[okS, zbo h, zl8 h r, Bool.and_self]
def rcv (m:List Int) (g:List (List UInt8)) (s:Nat × Nat):Int × Int:=(chF g s.2 s.1, dg m s.1 s.2)
def zdl (m:List Int) (g:List (List UInt8)) (S:List (Nat × Nat)):Int:=S.foldr (fun s t=>wrN (rcv m g s) + t) 0
theorem zlw (m:List Int) (g:List (List UInt8)):∀ S, 0 <= zdl m g S
 | []=>Int.le_refl _
 | s :: r=>by
  have h1:=zlw m g r
  have h2:=zon (rcv m g s)
  show 0 <= wrN _ + zdl m g r
  omega
theorem zmb {c:Cod} {l:List (List (List UInt8))} {m:List Int} {i:Nat} (h:i < l.length):∀ (S:List (Nat × Nat)) (x:Int), x <= c.most -> okS c l m i S x = (S.all (fun s=>okP c (rcv m l[i] s)) && decide (x + zdl m l[i] S <= c.most))
 | [], x, hx=>by simp [okS, zdl, hx]
 | s :: r, x, hx=>by
  have hw:wP l s.2 s.1 (dg m s.1 s.2) i = wrN (rcv m l[i] s):=by unfold wP rcv; rw [dif_pos h]
  have hq:okQ c l s.2 s.1 (dg m s.1 s.2) i x = (okP c (rcv m l[i] s) && decide (x + wrN (rcv m l[i] s) <= c.most)):=by unfold okQ rcv; rw [dif_pos h]
  have hs:zdl m l[i] (s :: r) = wrN (rcv m l[i] s) + zdl m l[i] r:=rfl
  have hb:=zlw m l[i] r
  simp only[okS, hw, hq, List.all_cons, hs]
  by_cases hle:x + wrN (rcv m l[i] s) <= c.most
  ·rw [zmb h r _ hle, decide_eq_true hle, Bool.and_true, Bool.and_assoc]
   congr 3
   rw [Int.add_assoc]
  ·rw [decide_eq_false hle, Bool.and_false, Bool.false_and, decide_eq_false (by omega), Bool.and_false]
theorem zgP {xs:List (Int × Int)} {F:Nat -> Int × Int}:∀ k, k <= xs.length -> (∀ q (h:q < xs.length), xs[q] = F q) -> zbF (xs.take k) = vJ k (fun q=>wrN (F q))
 | 0, _, _=>by simp [zbF, vJ]
 | k + 1, hk, h=>by rw [zhh (by omega), zgP k (by omega) h, h k (by omega)]; rfl
theorem zho {L:List (List (Int × Int))} {F:Nat -> Nat -> Int × Int}:∀ k, k <= L.length -> (∀ j (h:j < L.length), zbF L[j] = vJ 5 (fun q=>wrN (F j q))) -> zc8 (L.take k) = vJ k (fun j=>vJ 5 (fun q=>wrN (F j q)))
 | 0, _, _=>by simp [zc8, vJ]
 | k + 1, hk, h=>by rw [zhs (by omega), zho k (by omega) h, h k (by omega)]; rfl
def grid (k:Nat):List (Nat × Nat):=(List.range 5).flatMap fun q=>(List.range (k + 1)).map fun j=>(q, j)
theorem zi3 {k:Nat} {s:Nat × Nat}:s ∈ grid k ↔ s.1 < 5 /\ s.2 <= k:=by
 obtain ⟨q, j⟩:=s
 simp [grid]; omega
theorem zj3 {k:Nat} (h:1 <= k /\ k <= 3):stp k 24 0 0 = grid k:=by
 have:k = 1 ∨ k = 2 ∨ k = 3:=by omega
 rcases this with rfl | rfl | rfl <;> rfl
theorem znm {k:Nat} (h:1 <= k /\ k <= 3) (m:List Int) (g:List (List UInt8)):zdl m g (grid k) = vJ 5 (fun q=>vJ (k + 1) (fun j=>wrN (rcv m g (q, j)))):=by
 have:k = 1 ∨ k = 2 ∨ k = 3:=by omega
 rcases this with rfl | rfl | rfl
 ·show zdl m g [(0,0),(0,1),(1,0),(1,1),(2,0),(2,1),(3,0),(3,1),(4,0),(4,1)] = _
  simp only[zdl, List.foldr_cons, List.foldr_nil, vJ]; omega
 ·show zdl m g [(0,0),(0,1),(0,2),(1,0),(1,1),(1,2),(2,0),(2,1),(2,2),(3,0),(3,1),(3,2),(4,0),(4,1),(4,2)] = _
  simp only[zdl, List.foldr_cons, List.foldr_nil, vJ]; omega
 ·show zdl m g [(0,0),(0,1),(0,2),(0,3),(1,0),(1,1),(1,2),(1,3),(2,0),(2,1),(2,2),(2,3),(3,0),(3,1),(3,2),(3,3),(4,0),(4,1),(4,2),(4,3)] = _
  simp only[zdl, List.foldr_cons, List.foldr_nil, vJ]; omega
theorem zcb {c:Cod} (h:wL c = true):(1 <= c.fields.length /\ c.fields.length <= 3) /\ 0 <= c.most /\ c.most <= 2:=by
 simp only[wL, zLa, inB_iff] at h
 omega
theorem zmB {c:Cod} {m:List Int} {g:List (List UInt8)} (hm:msgB c m = true) (hg:vI c g = true):(prs m g).length = c.fields.length + 1 /\ ∀ j (h:j < (prs m g).length), ((prs m g)[j]).length = 5 /\ ∀ q (h2:q < ((prs m g)[j]).length), (prs m g)[j][q] = rcv m g (q, j):=by
 obtain ⟨h1, h2⟩:=zkx hg
 have hml:=yL hm
 have hgl:(ww m).length = m.length + 1:=by simp [ww]
 have hpl:(prs m g).length = c.fields.length + 1:=by simp [prs]; omega
 refine ⟨hpl, fun j h=>?_⟩
 have hjg:j < (ww m).length:=by omega
 have hj:j < g.length:=by omega
 have h5:=zco (h2 _ (List.getElem_mem hj))
 have e:=zpC hjg hj
 have hl:((prs m g)[j]).length = 5:=by rw [e, zbO h5]
 refine ⟨hl, fun q hq=>?_⟩
 have hq5:q < 5:=by omega
 have e2:(prs m g)[j][q] = (five (ww m)[j] g[j])[q]'(by rw [zbO h5]; exact hq5):=by simp only[e]
 rw [e2, zlj h5 hq5, zno hjg hq5]
 unfold rcv chF
 have e3:g.getD j [] = g[j]:=by rw [List.getD_eq_getElem?_getD, List.getElem?_eq_getElem hj, Option.getD_some]
 have e4:g[j].getD q 0 = g[j][q]'(by omega):=by rw [List.getD_eq_getElem?_getD, List.getElem?_eq_getElem (by omega), Option.getD_some]
 rw [e3, e4]
theorem zmM {c:Cod} {m:List Int} {g:List (List UInt8)} (hc:wL c = true) (hm:msgB c m = true) (hg:vI c g = true):((grid c.fields.length).all (fun s=>okP c (rcv m g s)) && decide (0 + zdl m g (grid c.fields.length) <= c.most)) = canB c m g:=by
 obtain ⟨hpl, hp⟩:=zmB hm hg
 have hcb:=zcb hc
 have hcnt:zc8 (prs m g) = vJ (c.fields.length + 1) (fun j=>vJ 5 (fun q=>wrN (rcv m g (q, j)))):=by
  have:=zho (L:=prs m g) (F:=fun j q=>rcv m g (q, j)) _ (Nat.le_refl _) (fun j h=>by
   have:=zgP (xs:=(prs m g)[j]) (F:=fun q=>rcv m g (q, j)) 5 (by rw [(hp j h).1]; exact Nat.le_refl _) (hp j h).2
   rwa [List.take_of_length_le (by rw [(hp j h).1]; exact Nat.le_refl _)] at this)
  rwa [List.take_of_length_le (Nat.le_refl _), hpl] at this
 unfold canB
 rw [znm hcb.1, zmt, hcnt, Int.zero_add]
 congr 1
 rw [Bool.eq_iff_iff, List.all_eq_true, List.all_eq_true]
 constructor
 ·intro h xs hx
  obtain ⟨j, hj, rfl⟩:=List.mem_iff_getElem.1 hx
  rw [List.all_eq_true]
  intro y hy
  obtain ⟨q, hq, rfl⟩:=List.mem_iff_getElem.1 hy
  rw [(hp j hj).2 q hq]
  exact h (q, j) (zi3.2 ⟨by rw [(hp j hj).1] at hq; exact hq, by omega⟩)
 ·intro h
  rintro ⟨q, j⟩ hs
  have hs:=zi3.1 hs
  have hj:j < (prs m g).length:=by rw [hpl]; have:=hs.2; simp only at this; omega
  have h2:=List.all_eq_true.1 (h _ (List.getElem_mem hj))
  have hq:q < ((prs m g)[j]).length:=by rw [(hp j hj).1]; exact hs.1
  have:=h2 _ (List.getElem_mem hq)
  rwa [(hp j hj).2 q hq] at this
def vO (c:Cod) (l:List (List (List UInt8))):List (List Int):=sortL (yc c l 24 0 0 0 (0, 0, 0) (List.replicate c.fields.length 0))
theorem zlz:∀ {m:List Int}, (∀ x ∈ m, 0 <= x /\ x <= 99999) -> ye m 0 0 = List.replicate m.length 0
 | [], _=>rfl
 | x :: xs, h=>by
  simp only[ye, List.length_cons, List.replicate_succ]
  rw [pv0 (h x (List.mem_cons_self ..)), zlz (fun y hy=>h y (List.mem_cons_of_mem _ hy))]
theorem ze9 {c:Cod} {l:List (List (List UInt8))} (hc:wL c = true) (hl:l.length <= 3) (hcp:∀ g ∈ l, vI c g = true) {m:List Int}:m ∈ vO c l ↔ msgB c m = true /\ ∀ g ∈ l, canB c m g = true:=by
 have hcb:=zcb hc
 unfold vO
 rw [zmq, zom c l 24 0 0 0 (0, 0, 0) _ m (by omega) (by omega) (by omega) (by unfold zaz; omega) (by simp) (by simp [zb7]), zj3 hcb.1, zjz]
 have hpre:msgB c m = true -> ye m 0 0 = List.replicate c.fields.length 0:=fun hm=>by
  rw [zlz (zoY hc hm), yL hm]
 have hone:∀ i, msgB c m = true -> (i < l.length -> okS c l m i (grid c.fields.length) 0 = canB c m (l.getD i [])):=fun i hm hi=>by
  rw [zmb hi _ _ (by omega)]
  have e:l.getD i [] = l[i]:=by rw [List.getD_eq_getElem?_getD, List.getElem?_eq_getElem hi, Option.getD_some]
  rw [e, zmM hc hm (hcp _ (List.getElem_mem hi))]
 constructor
 ·rintro ⟨hm, _, h⟩
  refine ⟨hm, fun g hg=>?_⟩
  obtain ⟨i, hi, rfl⟩:=List.mem_iff_getElem.1 hg
  simp only[zLa] at h
  have e:l.getD i [] = l[i]:=by rw [List.getD_eq_getElem?_getD, List.getElem?_eq_getElem hi, Option.getD_some]
  rw [← e, ← hone i hm hi]
  have:i = 0 ∨ i = 1 ∨ i = 2:=by omega
  rcases this with rfl | rfl | rfl
  ·exact h.1
  ·exact h.2.1
  ·exact h.2.2
 ·rintro ⟨hm, h⟩
  refine ⟨hm, hpre hm, ?_⟩
  have key:∀ i, okS c l m i (grid c.fields.length) 0 = true:=fun i=>by
   by_cases hi:i < l.length
   ·rw [hone i hm hi]
    have e:l.getD i [] = l[i]:=by rw [List.getD_eq_getElem?_getD, List.getElem?_eq_getElem hi, Option.getD_some]
    rw [e]; exact h _ (List.getElem_mem hi)
   ·exact zl8 (by omega) _ _
  simp only[key, Bool.and_self]
def zek (pz a:Nat) (now:List Int):Prop:=∀ j (h:j < now.length), 0 <= now[j] /\ now[j] < 10 ^ (if j < a then pz + 1 else pz)
theorem zob {pz a:Nat} {now:List Int} (h:zek pz a now) (ha:a < now.length) (hp:pz < 5):0 <= now[a] /\ now[a] <= 9999:=by
 have:=h a ha
 rw [if_neg (by omega)] at this
 have hq:pz = 0 ∨ pz = 1 ∨ pz = 2 ∨ pz = 3 ∨ pz = 4:=by omega
 rcases hq with rfl | rfl | rfl | rfl | rfl <;> (simp at this; omega)
theorem zkT {pz a:Nat} {now:List Int} (h:zek pz a now) (ha:a < now.length) {f:Int} (hf:0 <= f /\ f <= 9):zek pz (a + 1) (now.set a (10 * now[a] + f)):=by
 intro j hj
 have hj':j < now.length:=by simpa using hj
 have h1:=h j hj'
 rw [List.getElem_set]
 by_cases e:a = j
 ·subst e
  rw [if_neg (by omega)] at h1
  rw [if_pos rfl, if_pos (by omega), Int.pow_succ]
  omega
 ·rw [if_neg e]
  by_cases h2:j < a
  ·rw [if_pos h2] at h1; rw [if_pos (by omega)]; exact h1
  ·rw [if_neg h2] at h1; rw [if_neg (by omega)]; exact h1
theorem zkM {pz a:Nat} {now:List Int} (h:zek pz a now) (ha:now.length <= a):zek (pz + 1) 0 now:=by
 intro j hj
 have:=h j hj
 rw [if_pos (by omega)] at this
 rw [if_neg (by omega)]; exact this
theorem zqp (k:Nat):zek 0 0 (List.replicate k 0):=by
 intro j hj
 simp
def zjT (n:Int × Int × Int):Prop:=(0 <= n.1 /\ n.1 <= 2) /\ (0 <= n.2.1 /\ n.2.1 <= 2) /\ 0 <= n.2.2 /\ n.2.2 <= 2
theorem zkq {c:Cod} {l:List (List (List UInt8))} {a pz:Nat} {f:Int} {i:Nat} {n:Int} (hc:wL c = true) (h:okQ c l a pz f i n = true) (hn:0 <= n /\ n <= 2):0 <= n + wP l a pz f i /\ n + wP l a pz f i <= 2:=by
 have hb:=zew l a pz f i
 have hcb:=zcb hc
 by_cases hi:i < l.length
 ·unfold okQ at h
  rw [dif_pos hi, zLa, decide_eq_true_eq] at h
  have e:wP l a pz f i = wrN (chF l[i] a pz, f):=by unfold wP; rw [dif_pos hi]
  have h2:=h.2
  rw [← e] at h2
  omega
 ·rw [zdb (by omega)]; omega
theorem zjB {c:Cod} {l:List (List (List UInt8))} {a pz:Nat} {f:Int} {n:Int × Int × Int} (hc:wL c = true) (h:ve c l a pz f n = true) (hn:zjT n):zjT (plN l a pz f n):=by
 simp only[ve, zLa] at h
 exact ⟨zkq hc h.1 hn.1, zkq hc h.2.1 hn.2.1, zkq hc h.2.2 hn.2.2⟩
theorem zpG (now:List Int):∀ a:Nat, 0 <= zb7 now a /\ zb7 now a <= 9 * a:=by
 intro a
 have key:∀ (l:List Int) (t:Int), t <= l.foldl (fun s x=>s + x % 10) t /\ l.foldl (fun s x=>s + x % 10) t <= t + 9 * l.length:=by
  intro l
  induction l with
  | nil=>intro t; simp
  | cons x l ih=>
   intro t
   have:=ih (t + x % 10)
   simp only[List.foldl_cons, List.length_cons]
   omega
 have h:=key (now.take a) 0
 have:((now.take a).length:Int) <= a:=by simp; omega
 unfold zb7; omega
def Bd (k:Nat) (g:List (List UInt8)):List (Nat × Nat) -> Nat -> Nat
 | [], _=>1
 | s :: r, b=>if s.2 = k then Bd k g r b else if chF g s.2 s.1 = 63 then 10 * Bd k g r b else Bd k g r b + 9 * (match b with
  | 0=>0
  | b' + 1=>Bd k g r b')
theorem zeY (k:Nat) (g:List (List UInt8)):∀ (S:List (Nat × Nat)) (b:Nat), Bd k g S b <= Bd k g S (b + 1)
 | [], _=>Nat.le_refl _
 | s :: r, b=>by
  have h1:=zeY k g r b
  simp only[Bd]
  split
  ·exact h1
  ·split
   ·omega
   ·cases b with
    | zero=>simp only; omega
    | succ b=>
     have h2:=zeY k g r b
     simp only; omega
theorem zn2 (k:Nat) (g:List (List UInt8)) (S:List (Nat × Nat)) {b b':Nat} (h:b <= b'):Bd k g S b <= Bd k g S b':=by
 induction h with
 | refl=>exact Nat.le_refl _
 | step _ ih=>exact Nat.le_trans ih (zeY ..)
def zbK (g:List (List UInt8)) (S:List (Nat × Nat)):Nat:=(S.filter fun s=>chF g s.2 s.1 == 63).length
theorem zpx (k:Nat) (g:List (List UInt8)):∀ (S:List (Nat × Nat)), Bd k g S 0 <= 10 ^ zbK g S /\ Bd k g S 1 <= 10 ^ zbK g S * (1 + 9 * S.length) /\ Bd k g S 2 <= 10 ^ zbK g S * ((1 + 9 * S.length) * (1 + 9 * S.length))
 | []=>by simp [Bd, zbK]
 | s :: r=>by
  obtain ⟨h0, h1, h2⟩:=zpx k g r
  have hH:zbK g (s :: r) = if chF g s.2 s.1 = 63 then zbK g r + 1 else zbK g r:=by
   unfold zbK
   rw [List.filter_cons]
   by_cases e:chF g s.2 s.1 = 63 <;> simp [e]
  rw [hH]
  simp only[Bd, List.length_cons]
  generalize hy:1 + 9 * r.length = y at *
  have hy2:1 + 9 * (r.length + 1) = y + 9:=by omega
  rw [hy2]
  have hm:∀ x:Nat, x * ((y + 9) * (y + 9)) = x * (y * y) + 18 * (x * y) + 81 * x:=fun x=>by
   have e1:(y + 9) * (y + 9) = y * y + 18 * y + 81:=by rw [Nat.add_mul, Nat.mul_add]; omega
   have e2:x * (18 * y) = 18 * (x * y):=Nat.mul_left_comm ..
   rw [e1, Nat.mul_add, Nat.mul_add, e2]
   omega
  have hm1:∀ x:Nat, x * (y + 9) = x * y + 9 * x:=fun x=>by rw [Nat.mul_add]; omega
  by_cases e:chF g s.2 s.1 = 63
  ·simp only[e, if_true]
   have hp:10 ^ (zbK g r + 1) = 10 * 10 ^ zbK g r:=by rw [Nat.pow_succ]; omega
   rw [hp, hm, hm1]
   generalize 10 ^ zbK g r = x at *
   have e1:10 * x * y = 10 * (x * y):=Nat.mul_assoc ..
   have e2:10 * x * (y * y) = 10 * (x * (y * y)):=Nat.mul_assoc ..
   rw [e1, e2]
   by_cases ek:s.2 = k
   ·simp only[ek, if_true]; omega
   ·simp only[ek, if_false]; omega
  ·simp only[e, if_false]
   rw [hm, hm1]
   generalize 10 ^ zbK g r = x at *
   by_cases ek:s.2 = k
   ·simp only[ek, if_true]; omega
   ·simp only[ek, if_false]; omega
theorem zoD (c:Cod) (hc:wL c = true) (l:List (List (List UInt8))) (hl:0 < l.length):∀ (fu pz a:Nat) (sum:Int) (n:Int × Int × Int) (now:List Int), n.1 <= c.most ->
  (yc c l fu pz a sum n now).length <= Bd c.fields.length l[0] (stp c.fields.length fu pz a) (c.most - n.1).toNat:=by
 intro fu
 induction fu with
 | zero=>intro pz a sum n now _; simp [yc]
 | succ fu ih=>
  intro pz a sum n now hn
  simp only[yc, stp]
  have hstep:∀ f:Int, ve c l a pz f n = true -> (plN l a pz f n).1 <= c.most /\ n.1 <= (plN l a pz f n).1 /\ (rgt (chF l[0] a pz) f = false -> (plN l a pz f n).1 = n.1 + 1):=fun f h=>by
   simp only[ve, zLa] at h
   have h0:=h.1
   unfold okQ at h0
   rw [dif_pos hl, zLa, decide_eq_true_eq] at h0
   have hb:=zew l a pz f 0
   have e:wP l a pz f 0 = wrN (chF l[0] a pz, f):=by unfold wP; rw [dif_pos hl]
   have e2:(plN l a pz f n).1 = n.1 + wP l a pz f 0:=rfl
   have h02:=h0.2
   rw [← e] at h02
   rw [e2]
   refine ⟨h02, by omega, fun hr=>?_⟩
   rw [e]
   unfold wrN; simp only[hr, Bool.false_eq_true, if_false]
  split
  ·split <;> simp [Bd]
  ·split
   ·rename_i ea
    simp only[Bd]
    rw [if_pos ea]
    split
    ·rename_i hb
     obtain ⟨h1, h2, _⟩:=hstep _ hb
     have h4:(c.most - (plN l a pz (sum % 10) n).1).toNat <= (c.most - n.1).toNat:=by omega
     exact Nat.le_trans (ih _ _ _ _ _ h1) (zn2 _ _ _ h4)
    ·exact Nat.zero_le _
   ·rename_i ea
    simp only[Bd]
    rw [if_neg ea, List.length_flatMap]
    -- each figure's share
    have hsh:∀ f:Nat, ve c l a pz (f:Int) n = true -> (yc c l fu pz (a + 1) (sum + (f:Int)) (plN l a pz (f:Int) n) (now.set a (10 * now.getD a 0 + (f:Int)))).length <= Bd c.fields.length l[0] (stp c.fields.length fu pz (a + 1)) (c.most - n.1).toNat:=fun f hf=>by
     obtain ⟨h1, h2, _⟩:=hstep _ hf
     have h4:(c.most - (plN l a pz (f:Int) n).1).toNat <= (c.most - n.1).toNat:=by omega
     exact Nat.le_trans (ih _ _ _ _ _ h1) (zn2 _ _ _ h4)
    have hsh2:∀ f:Nat, ve c l a pz (f:Int) n = true -> rgt (chF l[0] a pz) (f:Int) = false -> (yc c l fu pz (a + 1) (sum + (f:Int)) (plN l a pz (f:Int) n) (now.set a (10 * now.getD a 0 + (f:Int)))).length <= (match (c.most - n.1).toNat with | 0=>0 | b' + 1=>Bd c.fields.length l[0] (stp c.fields.length fu pz (a + 1)) b'):=fun f hf hr=>by
     obtain ⟨h1, h2, h3⟩:=hstep _ hf
     have h3:=h3 hr
     have:=ih pz (a + 1) (sum + (f:Int)) _ (now.set a (10 * now.getD a 0 + (f:Int))) h1
     rw [h3] at this
     cases hb:(c.most - n.1).toNat with
     | zero=>omega
     | succ b=>
      have e:(c.most - (n.1 + 1)).toNat = b:=by omega
      rw [e] at this
      exact this
    generalize hB:Bd c.fields.length l[0] (stp c.fields.length fu pz (a + 1)) (c.most - n.1).toNat = B at *
    generalize hD:(match (c.most - n.1).toNat with | 0=>0 | b' + 1=>Bd c.fields.length l[0] (stp c.fields.length fu pz (a + 1)) b') = D at *
    generalize hF:(fun (f:Nat)=>(yc c l fu pz (a + 1) (sum + (f:Int)) (plN l a pz (f:Int) n) (now.set a (10 * now.getD a 0 + (f:Int)))).length) = F at *
    have hF1:∀ f:Nat, ve c l a pz (f:Int) n = true -> F f <= B:=fun f hf=>by rw [← hF]; exact hsh f hf
    have hF2:∀ f:Nat, ve c l a pz (f:Int) n = true -> rgt (chF l[0] a pz) (f:Int) = false -> F f <= D:=fun f hf hr=>by rw [← hF]; exact hsh2 f hf hr
    unfold zaU
    have hsum:∀ (p:Nat -> Bool) (G:Nat -> Nat), (∀ f, p f = true -> F f <= G f) -> (((List.range 10).filter p).map F).sum <= ((List.range 10).map G).sum:=fun p G h=>by
     have:∀ L:List Nat, ((L.filter p).map F).sum <= (L.map G).sum:=fun L=>by
      induction L with
      | nil=>simp
      | cons x L ih=>
       rw [List.filter_cons]
       cases hx:p x with
       | true=>
        have:=h x hx
        simp only[if_true, List.map_cons, List.sum_cons]; omega
       | false=>
        simp only[Bool.false_eq_true, if_false, List.map_cons, List.sum_cons]; omega
     exact this _
    split
    ·refine Nat.le_trans (hsum _ (fun _=>B) hF1) ?_
     simp [List.range_succ]; omega
    ·rename_i h63
     refine Nat.le_trans (hsum _ (fun f=>if rgt (chF l[0] a pz) (f:Int) = true then B else D) (fun f hf=>?_)) ?_
     ·split
      ·exact hF1 f hf
      ·rename_i hr
       exact hF2 f hf (by simpa using hr)
     ·have hr:∀ f:Nat, rgt (chF l[0] a pz) (f:Int) = true ↔ chF l[0] a pz - 48 = (f:Int):=fun f=>by
       unfold rgt; simp [h63]
      simp only[hr]
      have:List.range 10 = [0, 1, 2, 3, 4, 5, 6, 7, 8, 9]:=rfl
      rw [this]
      simp only[List.map_cons, List.map_nil, List.sum_cons, List.sum_nil]
      generalize chF l[0] a pz - 48 = x
      by_cases h0:x = ((0:Nat):Int)
      ·subst h0; simp; omega
      by_cases h1:x = ((1:Nat):Int)
      ·subst h1; simp; omega
      by_cases h2:x = ((2:Nat):Int)
      ·subst h2; simp; omega
      by_cases h3:x = ((3:Nat):Int)
      ·subst h3; simp; omega
      by_cases h4:x = ((4:Nat):Int)
      ·subst h4; simp; omega
      by_cases h5:x = ((5:Nat):Int)
      ·subst h5; simp; omega
      by_cases h6:x = ((6:Nat):Int)
      ·subst h6; simp; omega
      by_cases h7:x = ((7:Nat):Int)
      ·subst h7; simp; omega
      by_cases h8:x = ((8:Nat):Int)
      ·subst h8; simp; omega
      by_cases h9:x = ((9:Nat):Int)
      ·subst h9; simp; omega
      rw [if_neg h0, if_neg h1, if_neg h2, if_neg h3, if_neg h4, if_neg h5, if_neg h6, if_neg h7, if_neg h8, if_neg h9]
      -- no figure is right: ten shares of what is left
      have hDB:D <= B:=by
       rw [← hD, ← hB]
       cases (c.most - n.1).toNat with
       | zero=>exact Nat.zero_le _
       | succ b=>exact zeY ..
      omega
theorem zo3 {c:Cod} {g:List (List UInt8)} (hc:wL c = true) (hg:vI c g = true):zbK g (grid c.fields.length) <= 2:=by
 have hcb:=zcb hc
 have hcp:=zkx hg
 have hle:hlN g <= 2:=by simp only[vI, zLa, decide_eq_true_eq] at hg; exact hg.2.2
 have h1:∀ k, k <= g.length -> hlN (g.take k) = vJ k (fun j=>vJ 5 (fun q=>if chF g j q = 63 then 1 else 0)):=fun k=>by
  induction k with
  | zero=>intro _; simp [hlN, vJ]
  | succ k ih=>
   intro hk
   have hkl:k < g.length:=by omega
   rw [zfj hkl, ih (by omega)]
   simp only[vJ]
   have h5:=zco (hcp.2 _ (List.getElem_mem hkl))
   have e1:g.getD k [] = g[k]:=by rw [List.getD_eq_getElem?_getD, List.getElem?_eq_getElem hkl, Option.getD_some]
   have h2:∀ q, q <= 5 -> hl1 (g[k].take q) = vJ q (fun q=>if chF g k q = 63 then 1 else 0):=fun q=>by
    induction q with
    | zero=>intro _; simp [hl1, vJ]
    | succ q ih=>
     intro hq
     have hql:q < g[k].length:=by omega
     rw [zgj hql, ih (by omega)]
     simp only[vJ]
     have e2:chF g k q = (g[k][q].toNat:Int):=by
      unfold chF
      rw [e1, List.getD_eq_getElem?_getD, List.getElem?_eq_getElem hql, Option.getD_some]
     rw [e2]
     congr 1
     by_cases e:g[k][q].toNat = 63
     ·rw [if_pos e, if_pos (by omega)]
     ·rw [if_neg e, if_neg (by omega)]
   have:=h2 5 (by omega)
   rw [List.take_of_length_le (by omega)] at this
   rw [this]
   rfl
 have h2:=h1 g.length (Nat.le_refl _)
 rw [List.take_of_length_le (Nat.le_refl _)] at h2
 have hgl:g.length = c.fields.length + 1:=by omega
 rw [h2, hgl] at hle
 have key:∀ (S:List (Nat × Nat)), (zbK g S:Int) = S.foldr (fun s t=>(if chF g s.2 s.1 = 63 then (1:Int) else 0) + t) 0:=fun S=>by
  induction S with
  | nil=>rfl
  | cons s S ih=>
   simp only[List.foldr_cons, ← ih]
   unfold zbK
   rw [List.filter_cons]
   by_cases e:chF g s.2 s.1 = 63
   ·simp [e]; omega
   ·simp [e]
 have:(zbK g (grid c.fields.length):Int) <= 2:=by
  rw [key]
  have hk:c.fields.length = 1 ∨ c.fields.length = 2 ∨ c.fields.length = 3:=by omega
  rcases hk with hk | hk | hk
  ·rw [hk] at hle ⊢
   show List.foldr _ _ [(0,0),(0,1),(1,0),(1,1),(2,0),(2,1),(3,0),(3,1),(4,0),(4,1)] <= _
   simp only[vJ, List.foldr_cons, List.foldr_nil] at hle ⊢; omega
  ·rw [hk] at hle ⊢
   show List.foldr _ _ [(0,0),(0,1),(0,2),(1,0),(1,1),(1,2),(2,0),(2,1),(2,2),(3,0),(3,1),(3,2),(4,0),(4,1),(4,2)] <= _
   simp only[vJ, List.foldr_cons, List.foldr_nil] at hle ⊢; omega
  ·rw [hk] at hle ⊢
   show List.foldr _ _ [(0,0),(0,1),(0,2),(0,3),(1,0),(1,1),(1,2),(1,3),(2,0),(2,1),(2,2),(2,3),(3,0),(3,1),(3,2),(3,3),(4,0),(4,1),(4,2),(4,3)] <= _
   simp only[vJ, List.foldr_cons, List.foldr_nil] at hle ⊢; omega
 omega
theorem ziZ {c:Cod} {l:List (List (List UInt8))} (hc:wL c = true) (hl:0 < l.length) (hcp:∀ g ∈ l, vI c g = true):(yc c l 24 0 0 0 (0, 0, 0) (List.replicate c.fields.length 0)).length <= 4000000:=by
 have hcb:=zcb hc
 have h1:=zoD c hc l hl 24 0 0 0 (0, 0, 0) (List.replicate c.fields.length 0) (by omega)
 rw [zj3 hcb.1] at h1
 have h2:=zo3 hc (hcp _ (List.getElem_mem hl))
 have h3:=zn2 c.fields.length l[0] (grid c.fields.length) (b:=(c.most - 0).toNat) (b':=2) (by omega)
 have h4:=(zpx c.fields.length l[0] (grid c.fields.length)).2.2
 have h5:(grid c.fields.length).length <= 20:=by
  have hk:c.fields.length = 1 ∨ c.fields.length = 2 ∨ c.fields.length = 3:=by omega
  rcases hk with hk | hk | hk <;> (rw [hk]; decide)
 have h6:10 ^ zbK l[0] (grid c.fields.length) <= 10 ^ 2:=Nat.pow_le_pow_right (by omega) h2
 have h7:(1 + 9 * (grid c.fields.length).length) * (1 + 9 * (grid c.fields.length).length) <= 181 * 181:=Nat.mul_le_mul (by omega) (by omega)
 have h8:=Nat.mul_le_mul h6 h7
 exact Nat.le_trans h1 (Nat.le_trans h3 (Nat.le_trans h4 (Nat.le_trans h8 (by decide))))
end Wr
end Go.Av
end
