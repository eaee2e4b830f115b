import Derived.Test.YtgmbdadkbominaaGreatDoorWiB
import Derived.Test.YtgmbdadkbominaaGreatDoorPlatP
import Derived.Test.YtgmbdadkbominaaGreatDoorPlatH
set_option linter.unusedVariables false
set_option linter.unusedSimpArgs false
section
namespace Go.Av
namespace Wr
open Go.Proofs
set_option maxRecDepth 100000
set_option maxHeartbeats 1000000
variable {G:Glob}
theorem zrY {h:Int -> Bool} {w:List UInt8} (h5:w.length = 5) (ha:w.all (fun b=>h (b.toNat:Int)) = true):ofB h w = true:=by simp [ofB, h5, ha]
theorem zpI {h:Int -> Bool} {w:List UInt8} (h5:w.length ≠ 5):ofB h w = false:=by simp [ofB, h5]
theorem zqm {h:Int -> Bool} {w:List UInt8} {k:Nat} (hk:k < w.length) (hc:h (w[k].toNat:Int) = false):ofB h w = false:=by
 rw [ofB, xB (p:=fun b:UInt8=>h (b.toNat:Int)) hk hc]; rfl
theorem f120 (r:Int):ACall Tryz.prog G 169 [.v (.int .u8 r)] (.v (.bool (zks r))):=by
 refine zO Tryz.func169 Y (by kernel_rfl) Y ?_
 refine zn (zf (zg Y Y) (zo (zn (zf (zh Y Y) (zf (kG Y Y Y) (zf (zh Y Y) (zC Y (fun hg=>zh Y Y) (zC Y (fun hg=>zbt Y (if_pos hg) Y) ?_))))))))
 refine zf (jg Y Y Y Y) (zf (zg Y Y) (zo (zN ?_)))
 exact ⟨.inr Y, AVle.refl _⟩
theorem f67 (c:Cod) (l:List (List UInt8)) (hl:l.length <= 1000) (hc:c.fields.length <= 1000):ACall Tryz.prog G 73 [.agg (eCod c), eStrs l] (.v (.bool (vI c l))):=by
 have hcl:(c.fields.map eSpn).length <= 1000:=by simpa using hc
 refine zO Tryz.func73 Y (by kernel_rfl) Y ?_
 refine zn (zf (ql Y (zQ Y)) (zf (zg Y Y) (zo (zn (zf (zg Y Y) (zo (zt ?_)))))))
 refine zn (zf (zg Y Y) (zo (zF ?_)))
 refine qm (ι:={ q:Nat // q <= l.length /\ (l.take q).all (fun w=>ofB kW w) = true }) (fun q=>⟨Tryz.f73.ntmps, frL [(2, .pub (.ptr (eCod c))), (1, .pub (eStrs l)), (5, I (hlN (l.take q.1))), (6, I (q.1:Int))], []⟩) (fun q=>l.length - q.1) (⟨0, by simp⟩) ?_ ?_
 ·exact zy _ ⟨Y, Y, Y, Y, trivial⟩ (Y)
 ·rintro ⟨q, hq⟩
  dsimp only
  refine zt (zn (zf (zh Y Y) (zf (zI Y Y) (zf (qA Y Y Y Tryz.underlying81) (zf (qx Y Y Y) (zo (zA Y (fun h0=>?_) (fun h0=>?_))))))))
  ·have hlt:q < l.length:=by simpa [eStrs] using h0
   have hln:=zh7 _ (zci hq.2)
   have htl:(l.take q).length = q:=by simp; omega
   refine zH (zk (zt (zF (zt (zn (zf (zI Y Y) (zf (zh Y Y) (zf (zD Y Y Y zbs (by omega) (kU hlt) yj) (zf (zl Y Y Y ty9) (zf (zfi Y Y Tryz.underlying9) ?_))))))))))
   refine zf (wE Y Y Y) (zo (zA Y (fun h1=>?_) (fun h1=>?_)))
   ·have h5:l[q].length ≠ 5:=by simp at h1; omega
    refine zn (zf (zg Y Y) (zo (zN (zP (zZ (zP (zP (zZ (zP ?_)))))))))
    exact ⟨.inr Y, AVle.of (by rw [vI, xB (p:=fun w=>ofB kW w) hlt (zpI h5)]; rfl)⟩
   ·have h5:l[q].length = 5:=by simp at h1; omega
    refine zH (zk (zn (zf (zg Y Y) (zo (zF ?_)))))
    refine qm (ι:={ k:Nat // k <= 5 /\ (l[q].take k).all (fun b=>kW (b.toNat:Int)) = true }) (fun k=>⟨Tryz.f73.ntmps, frL [(2, .pub (.ptr (eCod c))), (1, .pub (eStrs l)), (5, I (hlN (l.take q) + hl1 (l[q].take k.1))), (6, I (q:Int)), (7, I (k.1:Int))], []⟩) (fun k=>5 - k.1) (⟨0, by simp⟩) ?_ ?_
    ·exact zy _ ⟨Y, Y, (congrArg (fun x:Int=>I x) (by simp [hl1])), Y, Y, trivial⟩ (Y)
    ·rintro ⟨k, hk⟩
     dsimp only
     refine zt (zn (zf (zh Y Y) (zf (qx Y Y Y) (zo (zA Y (fun h2=>?_) (fun h2=>?_))))))
     ·have hk5:k < 5:=by simp at h2; omega
      have hkl:k < l[q].length:=by omega
      have hst:=zgj hkl
      have hb1:=zkP (l[q].take k)
      have hb2:(l[q].take k).length <= 5:=by simp; omega
      refine zH (zk (zt (zF (zn (zf (zI Y Y) (zf (zh Y Y) (zf (zD Y Y Y zbs (by omega) (kU hlt) yj) (zf (zl Y Y Y ty9) (zf (zh Y Y) ?_)))))))))
      refine zf (wB Y Y Y Tryz.underlying9 (by omega) (by rw [Int.toNat_natCast]; exact List.getElem?_eq_getElem hkl)) ?_
      refine zf (qR Y Y Y) (zo (zA Y (fun h3=>?_) (fun h3=>?_)))
      ·have h63:l[q][k].toNat = 63:=by simp at h3; omega
       rw [if_pos h63] at hst
       have hcc:kW (l[q][k].toNat:Int) = true:=by simp [kW, zfC, h63]
       refine zx (zf (zh Y Y) (zf (zW Y Y Y ⟨by omega, by omega⟩) (zf (zg Y Y) (zM (zJ (zk (zx (zf (zh Y Y) (zf (zW Y Y Y ⟨by omega, by omega⟩) (zf (zg Y Y) (zM ?_)))))))))))
       exact ⟨⟨k + 1, by omega, zeh hk.2 hkl hcc⟩, by dsimp only; omega, (by refine zy (mem':=[]) _ ?_ ?_; exact ⟨Y, Y, (congrArg (fun x:Int=>I x) (by dsimp only; omega)), Y, Y, trivial⟩; exact Y)⟩
      ·have h63:¬ l[q][k].toNat = 63:=by simp at h3; omega
       rw [if_neg h63] at hst
       refine zn (zf (zI Y Y) (zf (zh Y Y) (zf (zD Y Y Y zbs (by omega) (kU hlt) yj) (zf (zl Y Y Y ty9) (zf (zh Y Y) ?_)))))
       refine zf (wB Y Y Y Tryz.underlying9 (by omega) (by rw [Int.toNat_natCast]; exact List.getElem?_eq_getElem hkl)) ?_
       refine zf (zB (av:=[_]) Y ⟨Y, trivial⟩ (f120 _)) (zf (qJ Y Y) (zo (zA Y (fun h4=>?_) (fun h4=>?_))))
       ·have hno:kW (l[q][k].toNat:Int) = false:=by simp only[kW, Bool.or_eq_false_iff]; exact ⟨by simpa using h4, by simp [zfC]; omega⟩
        refine zn (zf (zg Y Y) (zo (zN (zZ (zP (zP (zZ (zZ (zP ?_)))))))))
        refine zP (zZ (zP ?_))
        exact ⟨.inr Y, AVle.of (by rw [vI, xB (p:=fun w=>ofB kW w) hlt (zqm hkl hno)]; rfl)⟩
       ·have hcc:kW (l[q][k].toNat:Int) = true:=by simp only[kW, Bool.or_eq_true]; exact .inl (by simpa using h4)
        refine zH (zJ (zk (zx (zf (zh Y Y) (zf (zW Y Y Y ⟨by omega, by omega⟩) (zf (zg Y Y) (zM ?_)))))))
        exact ⟨⟨k + 1, by omega, zeh hk.2 hkl hcc⟩, by dsimp only; omega, (by refine zy (mem':=[]) _ ?_ ?_; exact ⟨Y, Y, (congrArg (fun x:Int=>I x) (by dsimp only; omega)), Y, Y, trivial⟩; exact Y)⟩
     ·have hge:l[q].length <= k:=by simp at h2; omega
      have hkk:l[q].take k = l[q]:=List.take_of_length_le hge
      have hyes:ofB kW l[q] = true:=zrY h5 (by rw [hkk] at hk; exact hk.2)
      refine qg (zS (zS (qh (zJ (zk (zx (zf (zh Y Y) (zf (zW Y Y Y ⟨by omega, by omega⟩) (zf (zg Y Y) (zM ?_))))))))))
      exact ⟨⟨q + 1, by omega, yF hq.2 hlt hyes⟩, by dsimp only; omega, (by refine zy (mem':=[]) _ ?_ ?_; exact ⟨Y, Y, (congrArg (fun x:Int=>I x) (by rw [hkk, zfj hlt])), Y, trivial⟩; exact Y)⟩
  ·have hge:l.length <= q:=by simpa [eStrs] using h0
   have hq2:=hq.2
   have hk2:q = l.length:=by omega
   subst hk2
   have hln:=zh7 _ (zci hq2)
   rw [List.take_length] at hq2 hln
   refine qg (zS (zS (qh (zk (zn (zf (zI Y Y) (zf (qA Y Y Y Tryz.underlying81) (zf (zi Y Y yh) (zf (zl Y Y Y kS) (zf (qA Y Y Y Tryz.underlying23) ?_))))))))))
   refine zf (zW Y Y Y ⟨by omega, by omega⟩) (zf (qR Y Y Y) (zf (zh Y Y) (zC Y (fun hg=>zh Y Y) (zC Y (fun hg=>zbt Y (if_pos hg) Y) (zf (jg Y Y Y Y) (zf (zg Y Y) (zo (zN ?_))))))))
   exact ⟨.inr Y, AVle.of (by rw [vI, hq2, Bool.true_and]; simp [eStrs])⟩
def dv2 (n:Int):Nat -> Int
 | 0=>n
 | k + 1=>dv2 n k / 2
theorem zpc {n N:Int} (h:0 <= n /\ n <= N):∀ k, 0 <= dv2 n k /\ dv2 n k <= N
 | 0=>h
 | k + 1=>by
  have:=zpc h k
  show 0 <= dv2 n k / 2 /\ dv2 n k / 2 <= N
  omega
theorem zhO (n:Int):∀ k:Nat, dv2 n k = n / 2 ^ k
 | 0=>by simp [dv2]
 | k + 1=>by
  show dv2 n k / 2 = _
  rw [zhO n k, Int.ediv_ediv_of_nonneg (by exact Int.le_of_lt (Int.pow_pos (by decide))), Int.pow_succ]
def zqC (t:Int) (k:Nat):Bool:=dv2 t k % 2 == 1
def zc0 (c:Cod) (f:Int):Int:=c.turns.getD f.toNat 0
def rgt (ch f:Int):Bool:=decide (ch = 63) || (ch - 48 == f)
def wrg (c:Cod) (ch f:Int):Bool:=zqC (zc0 c f) (ch - 48).toNat
def zbG (c:Cod) (ch f:Int):Int:=if rgt ch f then 1 else if wrg c ch f then 2 else 0
theorem zmz {c:Cod} (h:wL c = true):c.turns.length = 10 /\ ∀ t ∈ c.turns, 0 <= t /\ t <= 1023:=by
 simp only[wL, zLa, Bool.not_eq_true', beq_iff_eq] at h
 refine ⟨by omega, fun t ht=>?_⟩
 have h4:=h.2
 rw [List.any_eq_false] at h4
 have h5:=h4 t ht
 simp only[zhN, Bool.not_eq_true, Bool.not_eq_false', inB_iff] at h5
 exact h5
theorem zl7 {c:Cod} (h:wL c = true) {f:Int} (hf:0 <= f /\ f <= 9):∃ h':f.toNat < c.turns.length, c.turns[f.toNat] = zc0 c f /\ 0 <= zc0 c f /\ zc0 c f <= 1023:=by
 obtain ⟨h1, h2⟩:=zmz h
 have hl:f.toNat < c.turns.length:=by omega
 have e:c.turns[f.toNat] = zc0 c f:=by simp [zc0, List.getD_eq_getElem?_getD, List.getElem?_eq_getElem hl]
 have:=h2 _ (List.getElem_mem hl)
 rw [e] at this
 exact ⟨hl, e, this⟩
theorem f36 (t:Int) (f:Nat) (ht:0 <= t /\ t <= 1000000) (hf:f <= 1000):ACall Tryz.prog G 172 [.v (.int .i64 t), .v (.int .i64 (f:Int))] (.v (.bool (zqC t f))):=by
 refine zO Tryz.func172 Y (by kernel_rfl) Y ?_
 refine zn (zf (zg Y Y) (zo (zt (zn (zf (zg Y Y) (zo (zF ?_)))))))
 refine qm (ι:={ k:Nat // k <= f }) (fun k=>⟨Tryz.f172.ntmps, frL [(0, I (dv2 t k.1)), (1, I (f:Int)), (5, I (k.1:Int))], []⟩) (fun k=>f - k.1) (⟨0, by omega⟩) ?_ ?_
 ·exact zy _ ⟨Y, Y, Y, trivial⟩ (Y)
 ·rintro ⟨k, hk⟩
  dsimp only
  have hb:=zpc ht k
  refine zt (zn (zf (zh Y Y) (zf (zh Y Y) (zf (qx Y Y Y) (zo (zA Y (fun h0=>?_) (fun h0=>?_)))))))
  ·have hlt:k < f:=by simp at h0; omega
   refine zH (zk (zt (zF (zx (zf (zh Y Y) (zf (x9 Y Y Y ⟨(by omega), by omega, by omega⟩) (zf (zg Y Y) (zM (zJ (zk (zx ?_)))))))))))
   refine zf (zh Y Y) (zf (zW Y Y Y ⟨by omega, by omega⟩) (zf (zg Y Y) (zM ?_)))
   exact ⟨⟨k + 1, by omega⟩, by dsimp only; omega, zy _ ⟨Y, Y, Y, trivial⟩ (Y)⟩
  ·have hge:f = k:=by simp at h0; omega
   refine qg (zS (zS (qh (zk (zn (zf (zh Y Y) (zf (ku Y Y Y ⟨by omega, by omega⟩) (zf (qR Y Y Y) (zf (zg Y Y) (zM ?_))))))))))
   refine zk (zN ?_)
   exact ⟨.inr Y, AVle.of (by rw [hge]; rfl)⟩
theorem f119 (c:Cod) (ch f:Int) (hk:wL c = true) (hch:48 <= ch /\ ch <= 63) (hf:0 <= f /\ f <= 9):ACall Tryz.prog G 281 [.agg (eCod c), .v (.int .u8 ch), .v (.int .i64 f)] (.v (.int .i64 (zbG c ch f))):=by
 obtain ⟨htl, hte, htb⟩:=zl7 hk hf
 refine zO Tryz.func281 Y (by kernel_rfl) Y ?_
 refine zn (zf (ql Y (zQ Y)) (zf (zg Y Y) (zo (zn (zf (zh Y Y) (zf (zh3 Y Y Y (wrap_u8 (by omega))) (zf (xn Y Y Tryz.underlying5 Tryz.underlying3 (ze4 (by omega))) (zf (zg Y Y) ?_))))))))
 refine zo (zt (zF (zn (zf (zh Y Y) (zf (qR Y Y Y) (zf (zh Y Y) (zC Y (fun hg=>zh Y Y) (zC Y (fun hg=>zh Y Y) (zC Y (fun hg=>qR Y (if_pos hg) (if_pos hg)) ?_)))))))))
 refine zf (jf Y Y Y Y) (zf (zg Y Y) (zo (zA Y (fun h0=>?_) (fun h0=>?_))))
 ·have hr:rgt ch f = true:=by simpa [rgt] using h0
  refine zn (zf (zg Y Y) (zo (zN (zZ (zP ?_)))))
  exact ⟨.inr Y, AVle.of (by simp [zbG, hr])⟩
 ·have hr:rgt ch f = false:=by simpa [rgt] using h0
  have hne:ch ≠ 63:=by simp [rgt] at hr; exact hr.1
  refine zn (zf (zi Y Y zbi) (zf (zl Y Y Y zcX) (zf (zh Y Y) ?_)))
  refine zf (zD Y Y Y yR (by omega) (by rw [List.getElem?_map, List.getElem?_eq_getElem htl, hte]; rfl) qH) ?_
  refine zf (zl Y Y Y ty3) (zf (zh Y Y) (zf (ztL Y Y Y (by omega) (by omega)) (zf (zsD Y Y Y) (zf (qR Y Y Y) (zf (zg Y Y) (zo (zA Y (fun h1=>?_) (fun h1=>?_))))))))
  ·have hw:wrg c ch f = true:=by simpa [wrg, zqC, zhO] using h1
   refine zn (zf (zg Y Y) (zo (zN (zZ (zP ?_)))))
   exact ⟨.inr Y, AVle.of (by simp [zbG, hr, hw])⟩
  ·have hw:wrg c ch f = false:=by simpa [wrg, zqC, zhO] using h1
   refine zH (zJ (zk (zn (zf (zg Y Y) (zo (zN ?_))))))
   exact ⟨.inr Y, AVle.of (by simp [zbG, hr, hw])⟩
theorem f121 (c:Cod) (ch f:Int) (hk:wL c = true) (hch:48 <= ch /\ ch <= 63) (hf:0 <= f /\ f <= 9):ACall Tryz.prog G 75 [.agg (eCod c), .v (.int .i64 f), .v (.int .u8 ch)] (.tup [.v (.int .i64 (if rgt ch f then 0 else 1)), .v (.bool (rgt ch f || wrg c ch f))]):=by
 obtain ⟨htl, hte, htb⟩:=zl7 hk hf
 have htn:(((ch - 48).toNat:Nat):Int) = ch - 48:=by omega
 refine zO Tryz.func75 Y (by kernel_rfl) Y ?_
 refine zn (zf (ql Y (zQ Y)) (zf (zg Y Y) (zf (zg Y Y) (zo (zt (zn (zf (zh Y Y) (zf (qR Y Y Y) ?_))))))))
 refine zf (zh Y Y) (zC Y (fun hg=>zh Y Y) ?_)
 refine zC Y (fun hg=>zh3 Y ((by first | exact Y | exact if_pos hg)) Y (wrap_u8 (by omega))) ?_
 refine zC Y (fun hg=>xn Y ((by first | exact Y | exact if_pos hg)) Tryz.underlying5 Tryz.underlying3 (ze4 (by omega))) ?_
 refine zC Y (fun hg=>zh Y Y) (zC Y (fun hg=>qR Y (if_pos hg) (if_pos hg)) (zf (jf Y Y Y Y) (zo (zA Y (fun h0=>?_) (fun h0=>?_)))))
 ·have hr:rgt ch f = true:=by simpa [rgt] using h0
  refine zn (zf (zg Y Y) (zf (zg Y Y) (zo (zN (zP ?_)))))
  exact ⟨.inr Y, ⟨_, Y, ⟨_, _, Y, AVle.of (by simp [hr]), ⟨_, _, Y, AVle.of (by simp [hr]), Y⟩⟩⟩⟩
 ·have hr:rgt ch f = false:=by simpa [rgt] using h0
  refine zH (zk (zn (zf (zi Y Y zbi) (zf (zl Y Y Y zcX) (zf (zh Y Y) ?_)))))
  refine zf (zD Y Y Y yR (by omega) (by rw [List.getElem?_map, List.getElem?_eq_getElem htl, hte]; rfl) qH) ?_
  refine zf (zl Y Y Y ty3) (zf (zh Y Y) (zf (zh3 Y Y Y (wrap_u8 (by omega))) (zf (xn Y Y Tryz.underlying5 Tryz.underlying3 (ze4 (by omega))) (zf (zB (av:=[_, _]) Y ⟨Y, Y, trivial⟩ (htn ▸ f36 (zc0 c f) (ch - 48).toNat (by omega) (by omega))) (zf (zg Y Y) (zf (zg Y Y) (zo (zN ?_))))))))
  exact ⟨.inr Y, ⟨_, Y, ⟨_, _, Y, AVle.of (by simp [hr]), ⟨_, _, Y, AVle.of (by simp [hr, wrg]), Y⟩⟩⟩⟩
def zmP (g:G5):List Int:=[g.a, g.b, g.c, g.d, g.e]
def zd5 (g:G5) (k:Nat):Int:=(zmP g).getD k 0
theorem zqw {g:G5} (h:g.ok) {k:Nat} (hk:k < 5):0 <= zd5 g k /\ zd5 g k <= 9:=by
 unfold G5.ok at h
 match k, hk with
 | 0, _=>exact h.1
 | 1, _=>exact h.2.1
 | 2, _=>exact h.2.2.1
 | 3, _=>exact h.2.2.2.1
 | 4, _=>exact h.2.2.2.2
def five (g:G5) (w:List UInt8):List (Int × Int):=(w.map fun b=>(b.toNat:Int)).zip (zmP g)
theorem zbO {g:G5} {w:List UInt8} (h:w.length = 5):(five g w).length = 5:=by simp [five, zmP, h]
theorem zlj {g:G5} {w:List UInt8} (h:w.length = 5) {k:Nat} (hk:k < 5):(five g w)[k]'(by rw [zbO h]; exact hk) = ((w[k].toNat:Int), zd5 g k):=by
 have e:(zmP g)[k]'(by simp [zmP]; omega) = zd5 g k:=by
  unfold zd5
  rw [List.getD_eq_getElem?_getD, List.getElem?_eq_getElem (by simp [zmP]; omega)]; rfl
 simp [five, e]
def okP (c:Cod) (x:Int × Int):Bool:=rgt x.1 x.2 || wrg c x.1 x.2
def wrN (x:Int × Int):Int:=if rgt x.1 x.2 then 0 else 1
def zbF (xs:List (Int × Int)):Int:=xs.foldl (fun s x=>s + wrN x) 0
def zc8 (l:List (List (Int × Int))):Int:=l.foldl (fun s xs=>s + zbF xs) 0
theorem zhh {xs:List (Int × Int)} {k:Nat} (h:k < xs.length):zbF (xs.take (k + 1)) = zbF (xs.take k) + wrN xs[k]:=by
 unfold zbF; rw [List.take_succ_eq_append_getElem h, List.foldl_append]; rfl
theorem zhs {l:List (List (Int × Int))} {k:Nat} (h:k < l.length):zc8 (l.take (k + 1)) = zc8 (l.take k) + zbF l[k]:=by
 unfold zc8; rw [List.take_succ_eq_append_getElem h, List.foldl_append]; rfl
theorem zlr (xs:List (Int × Int)):0 <= zbF xs /\ zbF xs <= xs.length:=by
 have key:∀ (xs:List (Int × Int)) (t:Int), t <= xs.foldl (fun s x=>s + wrN x) t /\ xs.foldl (fun s x=>s + wrN x) t <= t + xs.length:=by
  intro xs
  induction xs with
  | nil=>intro t; simp
  | cons x xs ih=>
   intro t
   have h1:=ih (t + wrN x)
   have h2:0 <= wrN x /\ wrN x <= 1:=by unfold wrN; split <;> omega
   simp only[List.foldl_cons, List.length_cons]
   omega
 have:=key xs 0
 unfold zbF; omega
theorem zly (l:List (List (Int × Int))) (h:∀ xs ∈ l, xs.length <= 5):0 <= zc8 l /\ zc8 l <= 5 * l.length:=by
 have key:∀ (l:List (List (Int × Int))), (∀ xs ∈ l, xs.length <= 5) -> ∀ t:Int, t <= l.foldl (fun s xs=>s + zbF xs) t /\ l.foldl (fun s xs=>s + zbF xs) t <= t + 5 * l.length:=by
  intro l
  induction l with
  | nil=>intro _ t; simp
  | cons w l ih=>
   intro hl t
   have h1:=ih (fun v hv=>hl v (List.mem_cons_of_mem _ hv)) (t + zbF w)
   have h2:=zlr w
   have h3:=hl w (List.mem_cons_self ..)
   simp only[List.foldl_cons, List.length_cons]
   omega
 have:=key l h 0
 unfold zc8; omega
def prs (m:List Int) (l:List (List UInt8)):List (List (Int × Int)):=((ww m).zip l).map fun p=>five p.1 p.2
def canB (c:Cod) (m:List Int) (l:List (List UInt8)):Bool:=((prs m l).all fun xs=>xs.all (okP c)) && decide (zc8 (prs m l) <= c.most)
theorem zpC {m:List Int} {l:List (List UInt8)} {q:Nat} (h1:q < (ww m).length) (h2:q < l.length):(prs m l)[q]'(by simp [prs]; omega) = five (ww m)[q] l[q]:=by simp [prs]
theorem zpa {m:List Int} {l:List (List UInt8)} (h:∀ w ∈ l, w.length = 5):∀ xs ∈ prs m l, xs.length <= 5:=fun xs hx=>by
 obtain ⟨p, hp, rfl⟩:=List.mem_map.1 hx
 have:=h p.2 (List.of_mem_zip hp).2
 rw [zbO this]; omega
theorem zkx {c:Cod} {l:List (List UInt8)} (h:vI c l = true):(l.length:Int) = (c.fields.length:Int) + 1 /\ ∀ w ∈ l, ofB kW w = true:=by
 simp only[vI, zLa, List.all_eq_true, beq_iff_eq] at h
 exact ⟨h.2.1, h.1⟩
theorem zpP {b:UInt8} (h:kW (b.toNat:Int) = true):48 <= (b.toNat:Int) /\ (b.toNat:Int) <= 63:=by
 simp only[kW, zks, zfC, Bool.or_eq_true, zLa, decide_eq_true_eq] at h
 omega
theorem yL {c:Cod} {m:List Int} (h:msgB c m = true):m.length = c.fields.length:=by simp [msgB, eqF] at h; exact h.1
theorem ztp (c:Cod) (ch f f':Int) (e:f' = f) (hk:wL c = true) (hch:48 <= ch /\ ch <= 63) (hf:0 <= f /\ f <= 9):ACall Tryz.prog G 75 [.agg (eCod c), .v (.int .i64 f'), .v (.int .u8 ch)] (.tup [.v (.int .i64 (wrN (ch, f))), .v (.bool (okP c (ch, f)))]):=by
 subst e
 exact f121 c ch f' hk hch hf
theorem zr1 {g:G5} {k:Nat} (h:k < 5):g.chs[k]? = some (chD (zd5 g k)):=by
 match k, h with
 | 0, _=>rfl
 | 1, _=>rfl
 | 2, _=>rfl
 | 3, _=>rfl
 | 4, _=>rfl
theorem zon (x:Int × Int):0 <= wrN x /\ wrN x <= 1:=by unfold wrN; split <;> omega
theorem f68 (c:Cod) (m:List Int) (l:List (List UInt8)) (hc:c.fields.length <= 1000 /\ c.turns.length <= 1000) (hm1:m.length <= 1000) (hl1:l.length <= 1000) (hkc:wL c = true) (hkm:msgB c m = true) (hkl:vI c l = true):ACall Tryz.prog G 25 [.agg (eCod c), eInts m, eStrs l] (.v (.bool (canB c m l))):=by
 have hcp:=zkx hkl
 have hml:=yL hkm
 have hgl:(ww m).length = m.length + 1:=by simp [ww]
 have hgs:=zmn m
 have hpl:(prs m l).length = (ww m).length:=by simp [prs]; omega
 have h5:∀ w ∈ l, w.length = 5:=fun w hw=>zco (hcp.2 w hw)
 have hp5:=zpa (m:=m) h5
 refine zO Tryz.func25 Y (by kernel_rfl) Y ?_
 refine zn (zf (ql Y (zQ Y)) (zf (zg Y Y) (zo (zn (zf (zI Y Y) (zf (zB (av:=[_]) Y ⟨Y, trivial⟩ (f35 m hm1 (zlS hkc hkm))) (zf (qG Y Y) (zf (zg Y Y) ?_))))))))
 refine zo (zt (zn (zf (zg Y Y) (zo (zF ?_)))))
 refine qm (ι:={ q:Nat // q <= (ww m).length /\ ((prs m l).take q).all (fun xs=>xs.all (okP c)) = true }) (fun q=>⟨Tryz.f25.ntmps, frL [(2, .pub (eStrs l)), (3, .pub (.ptr (eCod c))), (7, .pub (eStrs (zbv m))), (8, I (zc8 ((prs m l).take q.1))), (9, I (q.1:Int))], []⟩) (fun q=>(ww m).length - q.1) (⟨0, by simp⟩) ?_ ?_
 ·exact zy _ ⟨Y, Y, Y, Y, Y, trivial⟩ (Y)
 ·rintro ⟨q, hq⟩
  dsimp only
  refine zt (zn (zf (zh Y Y) (zf (zI Y Y) (zf (qA Y Y Y Tryz.underlying81) (zf (qx Y Y Y) (zo (zA Y (fun h0=>?_) (fun h0=>?_))))))))
  ·have hls:q < (zbv m).length:=by simpa [eStrs] using h0
   have hlt:q < (ww m).length:=by omega
   have hll:q < l.length:=by omega
   have hw5:=h5 _ (List.getElem_mem hll)
   have hpq:=zpC hlt hll
   have hcn:=zly ((prs m l).take q) (fun xs hx=>hp5 xs (List.mem_of_mem_take hx))
   have htk:((prs m l).take q).length <= q:=by simp; omega
   have hf5:=zbO (g:=(ww m)[q]) hw5
   have hsg:(zbv m)[q] = ((ww m)[q]).chs:=by simp [zbv]
   refine zH (zk (zt (zF (zn (zf (zg Y Y) (zo (zF ?_)))))))
   refine qm (ι:={ k:Nat // k <= 5 /\ ((five (ww m)[q] l[q]).take k).all (okP c) = true }) (fun k=>⟨Tryz.f25.ntmps, frL [(2, .pub (eStrs l)), (3, .pub (.ptr (eCod c))), (7, .pub (eStrs (zbv m))), (8, I (zc8 ((prs m l).take q) + zbF ((five (ww m)[q] l[q]).take k.1))), (9, I (q:Int)), (10, I (k.1:Int))], []⟩) (fun k=>5 - k.1) (⟨0, by simp⟩) ?_ ?_
   ·exact zy _ ⟨Y, Y, Y, (congrArg (fun x:Int=>I x) (by simp [zbF])), Y, Y, trivial⟩ (Y)
   ·rintro ⟨k, hk⟩
    dsimp only
    refine zt (zn (zf (zh Y Y) (zf (qx Y Y Y) (zo (zA Y (fun h1=>?_) (fun h1=>?_))))))
    ·have hk5:k < 5:=by simp at h1; omega
     have hkl2:k < l[q].length:=by omega
     have hfa:=zqw (zpK _ (List.getElem_mem hlt)) hk5
     have hcd:=zpH hfa
     have hfe:((chD (zd5 (ww m)[q] k)).toNat:Int) - 48 = zd5 (ww m)[q] k:=by omega
     have hch:=zpP (zkr (hcp.2 _ (List.getElem_mem hll)) hkl2)
     have hfv:=zlj (g:=(ww m)[q]) hw5 hk5
     have hcb:=zlr ((five (ww m)[q] l[q]).take k)
     have hct:((five (ww m)[q] l[q]).take k).length <= 5:=by simp; omega
     have hcs:=zhh (xs:=five (ww m)[q] l[q]) (k:=k) (by omega)
     rw [hfv] at hcs
     have hwb:=zon ((l[q][k].toNat:Int), zd5 (ww m)[q] k)
     refine zH (zk (zt (zF (zt ?_))))
     refine qp mixed (by kernel_rfl) Y ?_
     refine zu Y (zK Y Y zbD (by exact zLb Y)) (zu Y (zI Y Y) (zu Y (zh Y Y) (zu Y (zD Y Y Y zbs (by omega) (kU hls) yj) (zu Y (zl Y Y Y ty9) (zu Y (zh Y Y) ?_)))))
     refine zu Y (wB Y Y Y Tryz.underlying9 (by omega) (by rw [Int.toNat_natCast, hsg]; exact zr1 hk5)) ?_
     refine zu Y (zh3 Y Y Y (wrap_u8 (by omega))) (zu Y (xn Y Y Tryz.underlying5 Tryz.underlying3 (ze4 (by omega))) (zu Y (zI Y Y) (zu Y (zh Y Y) (zu Y (zD Y Y Y zbs (by omega) (kU hll) yj) (zu Y (zl Y Y Y ty9) (zu Y (zh Y Y) ?_))))))
     refine zu Y (wB Y Y Y Tryz.underlying9 (by omega) (by rw [Int.toNat_natCast]; exact List.getElem?_eq_getElem hkl2)) ?_
     refine zu Y (zB (av:=[_, _, _]) Y ⟨Y, Y, Y, trivial⟩ (ztp c (l[q][k].toNat:Int) (zd5 (ww m)[q] k) _ hfe hkc hch hfa)) (zu Y (zI Y Y) (zu Y (zU Y Y Y) (zu Y (zU Y Y Y) (zu Y (zg Y Y) (zu Y (zg Y Y) (qF (zk (zt (zn (zf (zh Y Y) ?_))))))))))
     refine zf (qJ Y Y) (zo (zA Y (fun h2=>?_) (fun h2=>?_)))
     ·have hno:okP c ((l[q][k].toNat:Int), zd5 (ww m)[q] k) = false:=by simpa using h2
      have hno2:(five (ww m)[q] l[q]).all (okP c) = false:=xB (k:=k) (by omega) (by rw [hfv]; exact hno)
      have hall:(prs m l).all (fun xs=>xs.all (okP c)) = false:=xB (l:=prs m l) (p:=fun xs=>xs.all (okP c)) (k:=q) (by omega) (by rw [hpq]; exact hno2)
      refine zn (zf (zg Y Y) (zo (zN (zP (zZ (zP (zP (zZ (zZ ?_)))))))))
      refine zP (zP (zZ (zP ?_)))
      exact ⟨.inr Y, AVle.of (by rw [canB, hall]; rfl)⟩
     ·have hyes:okP c ((l[q][k].toNat:Int), zd5 (ww m)[q] k) = true:=by simpa using h2
      refine zH (zk (zx (zf (zh Y Y) (zf (zh Y Y) (zf (zW Y Y Y ⟨by omega, by omega⟩) (zf (zg Y Y) (zM (zJ (zk (zx (zf (zh Y Y) ?_)))))))))))
      refine zf (zW Y Y Y ⟨by omega, by omega⟩) (zf (zg Y Y) (zM ?_))
      exact ⟨⟨k + 1, by omega, yF hk.2 (by omega) (by rw [hfv]; exact hyes)⟩, by dsimp only; omega, (by refine zy (mem':=[]) _ ?_ ?_; exact ⟨Y, Y, Y, (congrArg (fun x:Int=>I x) (by dsimp only; omega)), Y, Y, trivial⟩; exact Y)⟩
    ·have hge:5 <= k:=by simp at h1; omega
     have hkk:(five (ww m)[q] l[q]).take k = five (ww m)[q] l[q]:=List.take_of_length_le (by omega)
     have hcs2:zc8 ((prs m l).take q) + zbF ((five (ww m)[q] l[q]).take k) = zc8 ((prs m l).take (q + 1)):=by rw [zhs (show q < (prs m l).length by omega), hpq]; exact congrArg (fun z=>zc8 ((prs m l).take q) + zbF z) hkk
     refine qg (zS (zS (qh (zJ (zk (zx (zf (zh Y Y) (zf (zW Y Y Y ⟨by omega, by omega⟩) (zf (zg Y Y) (zM ?_))))))))))
     exact ⟨⟨q + 1, by omega, yF hq.2 (by omega) (by rw [hpq, ← hkk]; exact hk.2)⟩, by dsimp only; omega, (by refine zy (mem':=[]) _ ?_ ?_; exact ⟨Y, Y, Y, (congrArg (fun x:Int=>I x) hcs2), Y, trivial⟩; exact Y)⟩
  ·have hge:(zbv m).length <= q:=by simpa [eStrs] using h0
   have hq2:=hq.2
   rw [List.take_of_length_le (by omega)] at hq2
   have hcn:=zly (prs m l) hp5
   have htt:(prs m l).take q = prs m l:=List.take_of_length_le (by omega)
   refine qg (zS (zS (qh (zk (zn (zf (zh Y Y) (zf (zi Y Y wQ) (zf (zl Y Y Y ty3) (zf (zbt Y Y Y) (zf (zg Y Y) ?_))))))))))
   refine zo (zN ?_)
   exact ⟨.inr Y, AVle.of (by rw [canB, hq2, htt, Bool.true_and])⟩
theorem ti3:Tryz.prog.info? 3 = some Tryz.t3:=by kernel_rfl
end Wr
end Go.Av
end
