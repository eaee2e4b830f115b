import Derived.Test.YtaphehlgijlfeaaGreatDoorWiD
import Derived.Test.YtaphehlgijlfeaaGreatDoorPlatF
import Derived.Test.YtaphehlgijlfeaaGreatDoorPlatI
set_option linter.unusedVariables false
set_option linter.unusedSimpArgs false
section
namespace Go.Av
open Go.Proofs
set_option maxRecDepth 100000
set_option maxHeartbeats 1000000
variable {G:Glob}
theorem zgI {s:ByteArray} {k:Nat} (h:(s.get! k).toNat < 128):Utf8.decode s k = ((s.get! k).toNat, 1):=by
 unfold Utf8.decode
 simp only[Nat.add_zero]
 rw [if_pos h]
theorem zqm {s:ByteArray} {k:Nat} (h:¬ (s.get! k).toNat < 128):128 <= (Utf8.decode s k).1:=by
 unfold Utf8.decode
 simp only[Nat.add_zero]
 rw [if_neg h]
 split
 ·
  split
  ·
   assumption
  ·
   decide
 ·
  split
  ·
   split
   ·
    rename_i hh; simp only[zLa, decide_eq_true_eq] at hh; omega
   ·
    decide
  ·
   split
   ·
    split
    ·
     rename_i hh; simp only[zLa, decide_eq_true_eq] at hh; omega
    ·
     decide
   ·
    decide
theorem get_at {w:List UInt8} {k:Nat} (h:k < w.length):(⟨w.toArray⟩:ByteArray).get! k = w[k]:=by
 show (w.toArray)[k]! = w[k]
 simp [h]
theorem zm1 {a:Nat} {b:List Tmp} {c:List (EV × Value)} {d:Bool} {p:Nat × Obj} {hs:List (Nat × Obj)} {fr:Nat -> EV} {mem:List PO}:Weak ⟨⟨a, b, c, d, p :: hs⟩, fr, mem⟩ ⟨⟨a, b, c, d, hs⟩, fr, mem⟩:=by
 intro w0 ok0 a w ⟨h0, h1, h2, ok, bs, h3, h4, h5, h6⟩
 exact ⟨h0, ⟨h1.1, fun p hp=>h1.2 p (List.mem_cons_of_mem _ hp)⟩, h2, ok, bs, h3, h4, h5, h6⟩
theorem znA {h:Int -> Bool} (hb:∀ r:Int, 128 <= r -> h r = false) {w:List UInt8} {k:Nat} (hk:k < w.length):h ((Utf8.decode ⟨w.toArray⟩ k).1:Int) = h (w[k].toNat:Int):=by
 by_cases hs:w[k].toNat < 128
 ·
  rw [zgI (by rw [get_at hk]; exact hs), get_at hk]
 ·
  have:=zqm (s:=⟨w.toArray⟩) (k:=k) (by rw [get_at hk]; exact hs)
  rw [hb _ (by omega), hb _ (by omega)]
theorem zln {w:List UInt8} {k:Nat} (hk:k < w.length) (h:w[k].toNat < 128):Utf8.decode ⟨w.toArray⟩ k = (w[k].toNat, 1):=by
 rw [zgI (by rw [get_at hk]; exact h), get_at hk]
theorem zls {w:List UInt8} {k:Nat} (hk:k < w.length) (h:w[k].toNat < 128):nxK ⟨w.toArray⟩ k = k + 1:=by
 unfold nxK; rw [if_pos (by simpa [ByteArray.size] using hk), zln hk h]
theorem zjg {h:Int -> Bool} (hb:∀ r:Int, 128 <= r -> h r = false) {b:UInt8} (hh:h (b.toNat:Int) = true):b.toNat < 128:=by
 by_cases hs:b.toNat < 128
 ·
  exact hs
 ·
  rw [hb _ (by omega)] at hh; cases hh
def ofB (h:Int -> Bool) (w:List UInt8):Bool:=(w.all fun b=>h (b.toNat:Int)) && decide (w.length = 5)
def zl8 (r:Int):Bool:=decide (48 <= r) && decide (r <= 57)
def zf4 (r:Int):Bool:=decide (r = 63)
def xq (r:Int):Bool:=zl8 r || zf4 r
theorem zqJ:∀ r:Int, 128 <= r -> zl8 r = false:=fun r h=>by simp [zl8]; omega
theorem zpA:∀ r:Int, 128 <= r -> zf4 r = false:=fun r h=>by simp [zf4]; omega
theorem zlM:∀ r:Int, 128 <= r -> xq r = false:=fun r h=>by simp [xq, zqJ r h, zpA r h]
theorem zd3 {w:List UInt8} {p:UInt8 -> Bool} {k:Nat} (h:(w.take k).all p = true) (hk:k < w.length) (hp:p w[k] = true):(w.take (k + 1)).all p = true:=xQ h hk hp
theorem f124 (r:Int):ACall Tryz.prog G 124 [.v (.int .i32 r)] (.v (.bool (zl8 r))):=by
 refine zS Tryz.func124 Y (by kernel_rfl) Y ?_
 refine zuy (zh (zE8 (zn Y Y) (zo (zf (zuy (zh (zE8 (zi Y Y) (zE8 (zbe Y Y Y) (zE8 (zi Y Y) (zE9 Y (fun hg=>zi Y Y) (zE9 Y (fun hg=>zaq Y (if_pos hg) Y) ?_)))))))))))
 refine zE8 (qI Y Y Y Y) (zE8 (zn Y Y) (zo (zf (zP ?_))))
 exact ⟨.inr Y, AVle.refl _⟩
theorem f106 (r:Int):ACall Tryz.prog G 106 [.v (.int .i32 r)] (.v (.bool (zf4 r))):=by
 refine zS Tryz.func106 Y (by kernel_rfl) Y ?_
 refine zuy (zh (zE8 (zn Y Y) (zo (zf (zuy (zh (zE8 (zi Y Y) (zE8 (qJ Y Y Y) (zE8 (zn Y Y) (zo (zf ?_)))))))))))
 refine zP ?_
 exact ⟨.inr Y, AVle.of (by simp [zf4]; rfl)⟩
theorem f151 (r:Int):ACall Tryz.prog G 151 [.v (.int .i32 r)] (.v (.bool (xq r))):=by
 refine zS Tryz.func151 Y (by kernel_rfl) Y ?_
 refine zuy (zh (zE8 (zn Y Y) (zo (zf (zuy (zh (zE8 (zi Y Y) (zE8 (zy (av:=[_]) Y ⟨Y, trivial⟩ (f124 r)) (zE8 (zi Y Y) (zE9 Y (fun hg=>zi Y Y) (zE9 Y (fun hg=>zy (av:=[_]) Y ⟨((if_pos hg)), trivial⟩ (f106 r)) ?_)))))))))))
 refine zE8 (qU Y Y Y Y) (zE8 (zn Y Y) (zo (zf (zP ?_))))
 exact ⟨.inr Y, AVle.refl _⟩
theorem f103 (w:List UInt8) (h:Int -> Bool) (f:FuncId) (fs cs:List AV) (hb:∀ r:Int, 128 <= r -> h r = false) (hf:∀ r:Int, ACall Tryz.prog G f (fs ++ [.v (.int .i32 r)] ++ cs) (.v (.bool (h r)))):ACall Tryz.prog G 103 [eS w, .fn f fs cs] (.v (.bool (ofB h w))):=by
 have hF:=Lib.hid hf
 clear hf
 refine zS Tryz.func103 Y (by kernel_rfl) Y ?_
 refine zuy (zh (zE8 (zn Y Y) (zo (zf (zuy (zuy (zh (zE8 (zi Y Y) ?_))))))))
 refine zjE Y Y Y Y Tryz.underlying9 (fun itb=>?_)
 refine zo (zf (zB ?_))
 refine qy (ι:={ k:Nat // k <= w.length /\ (w.take k).all (fun b=>h (b.toNat:Int)) = true }) (fun k=>⟨⟨Tryz.f103.ntmps, [], [], false, [(itb, .stringIter ⟨w.toArray⟩ k.1)]⟩, frL [(0, SL w), (1, .pub (.fn f fs cs)), (8, itP itb)], []⟩) (fun k=>w.length - k.1) (⟨0, by simp⟩) ?_ ?_
 ·
  exact zt _ ⟨Y, Y, Y, trivial⟩ (Y)
 ·
  rintro ⟨k, hk⟩
  dsimp only
  refine zuy (zh ?_)
  refine zlD Y Y Y Y Y Y ?_
  refine zE8 (zN Y Y (zsE _ _)) (zo (zf (zuy (zx Y (fun h0=>?_) (fun h0=>?_)))))
  ·
   have hlt0:k < (⟨w.toArray⟩:ByteArray).size:=by simpa using h0
   have hlt:k < w.length:=by simpa [ByteArray.size] using hlt0
   have hdk:=znA hb hlt
   refine zC (zf (zB (zuy (zh (zE8 (zN Y Y (zsM hlt0)) (zE8 (zn Y Y) (zo (zf (zuy (zh (zE8 (zq Y Y) ?_)))))))))))
   refine zE8 (zi Y Y) (zE8 (zbX (av:=[_]) Y Y ⟨Y, trivial⟩ (hF.out _)) (zE8 (je Y Y) (zo (zf (zx Y (fun h1=>?_) (fun h1=>?_))))))
   ·
    have hno:h (w[k].toNat:Int) = false:=by rw [← hdk]; simpa using h1
    refine zuy (zh (zE8 (zn Y Y) (zo (zf (zP (qF (zQ (qF (zQ ?_)))))))))
    exact ⟨.inr Y, AVle.of (by rw [ofB, zaW (p:=fun b:UInt8=>h (b.toNat:Int)) hlt hno]; rfl)⟩
   ·
    have hyes:h (w[k].toNat:Int) = true:=by rw [← hdk]; simpa using h1
    have hlow:=zjg hb hyes
    have hnx:=zls hlt hlow
    refine zC (zD ?_)
    exact ⟨⟨k + 1, by omega, zd3 hk.2 hlt hyes⟩, by dsimp only; omega, zeI (congrArg (fun z=>(⟨Tryz.f103.ntmps, [], [], false, [(itb, Obj.stringIter ⟨w.toArray⟩ z)]⟩:NS)) hnx) _ ⟨Y, Y, Y, trivial⟩ Y⟩
  ·
   have hge:w.length <= k:=by simpa [ByteArray.size] using h0
   refine qp (zL (zL (qw (zf (zuy (zh (zE8 (zi Y Y) (zE8 (wE Y Y Tryz.underlying9) (zE8 (qJ Y Y Y) (zE8 (zn Y Y) (zo ?_)))))))))))
   refine zf (zP ?_)
   exact ⟨.inr Y, AVle.of (by rw [List.take_of_length_le hge] at hk; rw [ofB, hk.2, Bool.true_and]; exact congrArg (fun x:Bool=>AV.v (Value.bool x)) (by rw [Bool.eq_iff_iff]; simp; omega))⟩
def hl1 (w:List UInt8):Int:=w.foldl (fun s b=>s + if b.toNat = 63 then 1 else 0) 0
def hlN (l:List (List UInt8)):Int:=l.foldl (fun s w=>s + hl1 w) 0
theorem zeX {w:List UInt8} {k:Nat} (h:k < w.length):hl1 (w.take (k + 1)) = hl1 (w.take k) + if w[k].toNat = 63 then 1 else 0:=by
 unfold hl1; rw [List.take_succ_eq_append_getElem h, List.foldl_append]; rfl
theorem ze6 {l:List (List UInt8)} {k:Nat} (h:k < l.length):hlN (l.take (k + 1)) = hlN (l.take k) + hl1 l[k]:=by
 unfold hlN; rw [List.take_succ_eq_append_getElem h, List.foldl_append]; rfl
theorem zkk (w:List UInt8):0 <= hl1 w /\ hl1 w <= w.length:=by
 have key:∀ (w:List UInt8) (t:Int), t <= w.foldl (fun s b=>s + if b.toNat = 63 then 1 else 0) t /\ w.foldl (fun s b=>s + if b.toNat = 63 then 1 else 0) t <= t + w.length:=by
  intro w
  induction w with
  | nil=>intro t; simp
  | cons b w ih=>
   intro t
   have h1:=ih (t + if b.toNat = 63 then 1 else 0)
   simp only[List.foldl_cons, List.length_cons]
   obtain ⟨x, hx⟩:∃ x:Int, (if b.toNat = 63 then (1:Int) else 0) = x:=⟨_, rfl⟩
   have h2:0 <= x /\ x <= 1:=by rw [← hx]; split <;> omega
   rw [hx] at h1 ⊢
   omega
 have:=key w 0
 unfold hl1; omega
theorem zie (l:List (List UInt8)) (h:∀ w ∈ l, w.length <= 5):0 <= hlN l /\ hlN l <= 5 * l.length:=by
 have key:∀ (l:List (List UInt8)), (∀ w ∈ l, w.length <= 5) -> ∀ t:Int, t <= l.foldl (fun s w=>s + hl1 w) t /\ l.foldl (fun s w=>s + hl1 w) t <= t + 5 * l.length:=by
  intro l
  induction l with
  | nil=>intro _ t; simp
  | cons w l ih=>
   intro hl t
   have h1:=ih (fun v hv=>hl v (List.mem_cons_of_mem _ hv)) (t + hl1 w)
   have h2:=zkk w
   have h3:=hl w (List.mem_cons_self ..)
   simp only[List.foldl_cons, List.length_cons]
   omega
 have:=key l h 0
 unfold hlN; omega
def jX (c:Cod) (l:List (List UInt8)):Bool:=(l.all fun w=>ofB xq w) && (((l.length:Int) == (c.fields.length:Int) + 1) && decide (hlN l <= 2))
theorem zcf {h:Int -> Bool} {w:List UInt8} (hh:ofB h w = true):w.length = 5:=by simp [ofB] at hh; exact hh.2
theorem znv {h:Int -> Bool} {w:List UInt8} (hh:ofB h w = true) {k:Nat} (hk:k < w.length):h (w[k].toNat:Int) = true:=by
 simp only[ofB, zLa, List.all_eq_true] at hh
 exact hh.1 _ (List.getElem_mem hk)
theorem zb4 {l:List (List UInt8)} {q:Nat} (h:(l.take q).all (fun w=>ofB xq w) = true):∀ w ∈ l.take q, w.length <= 5:=fun w hw=>by
 rw [List.all_eq_true] at h; have:=zcf (h w hw); omega
theorem f118 (c:Cod) (l:List (List UInt8)) (hl:l.length <= 1000) (hc:c.fields.length <= 1000):ACall Tryz.prog G 118 [.agg (qK c), jD l] (.v (.bool (jX c l))):=by
 have hcl:(c.fields.map ye).length <= 1000:=by simpa using hc
 refine zS Tryz.func118 Y (by kernel_rfl) Y ?_
 refine zuy (zh (zE8 (jf Y (zY Y)) (zE8 (zn Y Y) (zo (zf (zuy (zh (zE8 (zn Y Y) (zo (zf (zuy ?_)))))))))))
 refine zuy (zh (zE8 (zq Y Y) (zE8 (qh Y Y Y Tryz.underlying34) (zE8 (zi Y Y) (zo (zf (zB ?_)))))))
 refine qy (ι:={ q:Nat // q <= l.length /\ (l.take q).all (fun w=>ofB xq w) = true }) (fun q=>⟨Tryz.f118.ntmps, frL [(2, .pub (.ptr (qK c))), (1, .pub (jD l)), (5, I (hlN (l.take q.1))), (10, .pub (jD l)), (11, I (l.length:Int)), (12, I (q.1:Int))], []⟩) (fun q=>l.length - q.1) (⟨0, by simp⟩) ?_ ?_
 ·
  exact zt _ ⟨Y, Y, Y, Y, (congrArg (fun x:Nat=>I (x:Int)) (List.length_map _)), Y, trivial⟩ (Y)
 ·
  rintro ⟨q, hq⟩
  dsimp only
  refine zuy (zh (zE8 (qi Y Y Y) (zo (zf (zuy (zx Y (fun h0=>?_) (fun h0=>?_)))))))
  ·
   have hlt:q < l.length:=by simpa using h0
   have hln:=zie _ (zb4 hq.2)
   have htl:(l.take q).length = q:=by simp; omega
   refine zC (zf (zuy (zB (zuy (zh (zE8 (zG Y Y Y yJ (by omega) (xI hlt) vZ) (zE8 (zA Y Y Y ty9) (zE8 (zn Y Y) (zo (zf (zuy ?_)))))))))))
   refine zuy (zh (zE8 (zi Y Y) (zE8 (zy (av:=[_, _]) Y ⟨Y, Y, trivial⟩ (f103 l[q] xq 151 [] [] zlM (fun r=>f151 r))) (zE8 (je Y Y) (zo (zf (zx Y (fun h1=>?_) (fun h1=>?_))))))))
   ·
    have hno:ofB xq l[q] = false:=by simpa using h1
    refine zuy (zh (zE8 (zn Y Y) (zo (zf (zP (zQ (qF (zQ (zQ (qF (zQ ?_)))))))))))
    exact ⟨.inr Y, AVle.of (by rw [jX, zaW (p:=fun w=>ofB xq w) hlt hno]; rfl)⟩
   ·
    have hyes:ofB xq l[q] = true:=by simpa using h1
    have hw5:=zcf hyes
    refine zC (zf (zuy (zh (zE8 (zi Y Y) ?_))))
    refine zjE Y Y Y Y Tryz.underlying9 (fun itb=>?_)
    refine zo (zf (zB ?_))
    refine qy (ι:={ k:Nat // k <= l[q].length }) (fun k=>⟨⟨Tryz.f118.ntmps, [], [], false, [(itb, .stringIter ⟨l[q].toArray⟩ k.1)]⟩, frL [(2, .pub (.ptr (qK c))), (1, .pub (jD l)), (5, I (hlN (l.take q) + hl1 (l[q].take k.1))), (10, .pub (jD l)), (11, I (l.length:Int)), (12, I (q:Int)), (20, itP itb)], []⟩) (fun k=>l[q].length - k.1) (⟨0, by omega⟩) ?_ ?_
    ·
     exact zt _ ⟨Y, Y, (congrArg (fun x:Int=>I x) (by simp [hl1])), Y, Y, Y, Y, trivial⟩ (Y)
    ·
     rintro ⟨k, hk⟩
     dsimp only
     refine zuy (zh ?_)
     refine zlD Y Y Y Y Y Y ?_
     refine zE8 (zN Y Y (zsE _ _)) (zo (zf (zuy (zx Y (fun h2=>?_) (fun h2=>?_)))))
     ·
      have hlt0:k < (⟨l[q].toArray⟩:ByteArray).size:=by simpa using h2
      have hkl:k < l[q].length:=by simpa [ByteArray.size] using hlt0
      have hat:=znv hyes hkl
      have hlow:=zjg zlM hat
      have hnx:=zls hkl hlow
      have hdec:=zln hkl hlow
      have hst:=zeX hkl
      have hb1:=zkk (l[q].take k)
      have hb2:(l[q].take k).length <= 5:=by simp; omega
      refine zC (zf (zB (zuy (zh (zE8 (zN Y Y (zsM hlt0)) (zE8 (zn Y Y) (zo (zf (zuy (zh (zE8 (zi Y Y) ?_)))))))))))
      refine zE8 (zy (av:=[_]) Y ⟨Y, trivial⟩ (f106 _)) (zo (zf (zx Y (fun h3=>?_) (fun h3=>?_))))
      ·
       have h63:l[q][k].toNat = 63:=by have h:=h3; simp only[hdec, zf4] at h; simp at h; omega
       rw [if_pos h63] at hst
       refine zh (zE8 (zi Y Y) (zE8 (zV Y Y Y ⟨(by omega), (by omega)⟩) (zE8 (zn Y Y) (zo (zD ?_)))))
       exact ⟨⟨k + 1, by omega⟩, by dsimp only; omega, zeI (congrArg (fun z=>(⟨Tryz.f118.ntmps, [], [], false, [(itb, Obj.stringIter ⟨l[q].toArray⟩ z)]⟩:NS)) hnx) _ ⟨Y, Y, (congrArg (fun x:Int=>I x) (by dsimp only; omega)), Y, Y, Y, Y, trivial⟩ Y⟩
      ·
       have h63:¬ l[q][k].toNat = 63:=by have h:=h3; simp only[hdec, zf4] at h; simp at h; omega
       rw [if_neg h63] at hst
       refine zC (zD ?_)
       exact ⟨⟨k + 1, by omega⟩, by dsimp only; omega, zeI (congrArg (fun z=>(⟨Tryz.f118.ntmps, [], [], false, [(itb, Obj.stringIter ⟨l[q].toArray⟩ z)]⟩:NS)) hnx) _ ⟨Y, Y, (congrArg (fun x:Int=>I x) (by dsimp only; omega)), Y, Y, Y, Y, trivial⟩ Y⟩
     ·
      have hge:l[q].length <= k:=by simpa [ByteArray.size] using h2
      have hkk:l[q].take k = l[q]:=List.take_of_length_le hge
      refine qp (zL (zL (qw (zD (zf ?_)))))
      refine qx zm1 ?_
      refine zh (zE8 (zV Y Y Y ⟨(by omega), (by omega)⟩) (zE8 (zi Y Y) (zo ?_)))
      exact ⟨⟨q + 1, by omega, xQ hq.2 hlt hyes⟩, by dsimp only; omega, (by refine zt (mem':=[]) _ ?_ ?_; exact ⟨Y, Y, (congrArg (fun x:Int=>I x) (by rw [hkk, ze6 hlt])), Y, Y, Y, trivial⟩; exact Y)⟩
  ·
   have hge:l.length <= q:=by simpa using h0
   have hq2:=hq.2
   have hk2:q = l.length:=by omega
   subst hk2
   have hln:=zie _ (zb4 hq2)
   rw [List.take_length] at hq2 hln
   refine qp (zL (zL (qw (zf (zuy (zh (zE8 (zq Y Y) (zE8 (qh Y Y Y Tryz.underlying34) (zE8 (zu Y Y jS) (zE8 (zA Y Y Y zah) (zE8 (qh Y Y Y Tryz.underlying22) ?_)))))))))))
   refine zE8 (zV Y Y Y ⟨(by omega), (by omega)⟩) (zE8 (qJ Y Y Y) (zE8 (zi Y Y) (zE9 Y (fun hg=>zi Y Y) (zE9 Y (fun hg=>zaq Y (if_pos hg) Y) (zE8 (qI Y Y Y Y) (zE8 (zn Y Y) (zo (zf (zP ?_)))))))))
   exact ⟨.inr Y, AVle.of (by rw [jX, hq2, Bool.true_and]; simp [jD])⟩
theorem zr2 {h:Int -> Bool} {w:List UInt8} (h5:w.length = 5) (ha:w.all (fun b=>h (b.toNat:Int)) = true):ofB h w = true:=by simp [ofB, h5, ha]
theorem zp6 {h:Int -> Bool} {w:List UInt8} (h5:w.length ≠ 5):ofB h w = false:=by simp [ofB, h5]
theorem zqo {h:Int -> Bool} {w:List UInt8} {k:Nat} (hk:k < w.length) (hc:h (w[k].toNat:Int) = false):ofB h w = false:=by
 rw [ofB, zaW (p:=fun b:UInt8=>h (b.toNat:Int)) hk hc]; rfl
theorem f120 (r:Int):ACall Tryz.prog G 120 [.v (.int .u8 r)] (.v (.bool (zl8 r))):=by
 refine zS Tryz.func120 Y (by kernel_rfl) Y ?_
 refine zuy (zh (zE8 (zn Y Y) (zo (zf (zuy (zh (zE8 (zi Y Y) (zE8 (zbe Y Y Y) (zE8 (zi Y Y) (zE9 Y (fun hg=>zi Y Y) (zE9 Y (fun hg=>zaq Y (if_pos hg) Y) ?_)))))))))))
 refine zE8 (qI Y Y Y Y) (zE8 (zn Y Y) (zo (zf (zP ?_))))
 exact ⟨.inr Y, AVle.refl _⟩
theorem f67 (c:Cod) (l:List (List UInt8)) (hl:l.length <= 1000) (hc:c.fields.length <= 1000):ACall Tryz.prog G 67 [.agg (qK c), jD l] (.v (.bool (jX c l))):=by
 have hcl:(c.fields.map ye).length <= 1000:=by simpa using hc
 refine zS Tryz.func67 Y (by kernel_rfl) Y ?_
 refine zuy (zh (zE8 (jf Y (zY Y)) (zE8 (zn Y Y) (zo (zf (zuy (zh (zE8 (zn Y Y) (zo (zf (zuy ?_)))))))))))
 refine zuy (zh (zE8 (zn Y Y) (zo (zf (zB ?_)))))
 refine qy (ι:={ q:Nat // q <= l.length /\ (l.take q).all (fun w=>ofB xq w) = true }) (fun q=>⟨Tryz.f67.ntmps, frL [(2, .pub (.ptr (qK c))), (1, .pub (jD l)), (5, I (hlN (l.take q.1))), (6, I (q.1:Int))], []⟩) (fun q=>l.length - q.1) (⟨0, by simp⟩) ?_ ?_
 ·
  exact zt _ ⟨Y, Y, Y, Y, trivial⟩ (Y)
 ·
  rintro ⟨q, hq⟩
  dsimp only
  refine zuy (zuy (zh (zE8 (zi Y Y) (zE8 (zq Y Y) (zE8 (qh Y Y Y Tryz.underlying34) (zE8 (qi Y Y Y) (zo (zf (zx Y (fun h0=>?_) (fun h0=>?_))))))))))
  ·
   have hlt:q < l.length:=by simpa [jD] using h0
   have hln:=zie _ (zb4 hq.2)
   have htl:(l.take q).length = q:=by simp; omega
   refine zC (zf (zuy (zB (zuy (zuy (zh (zE8 (zq Y Y) (zE8 (zi Y Y) (zE8 (zG Y Y Y yJ (by omega) (xI hlt) vZ) (zE8 (zA Y Y Y ty9) (zE8 (wE Y Y Tryz.underlying9) ?_)))))))))))
   refine zE8 (vg Y Y Y) (zo (zf (zx Y (fun h1=>?_) (fun h1=>?_))))
   ·
    have h5:l[q].length ≠ 5:=by simp at h1; omega
    refine zuy (zh (zE8 (zn Y Y) (zo (zf (zP (zQ (qF (zQ (zQ (qF (zQ ?_)))))))))))
    exact ⟨.inr Y, AVle.of (by rw [jX, zaW (p:=fun w=>ofB xq w) hlt (zp6 h5)]; rfl)⟩
   ·
    have h5:l[q].length = 5:=by simp at h1; omega
    refine zC (zf (zuy (zh (zE8 (zn Y Y) (zo (zf (zB ?_)))))))
    refine qy (ι:={ k:Nat // k <= 5 /\ (l[q].take k).all (fun b=>xq (b.toNat:Int)) = true }) (fun k=>⟨Tryz.f67.ntmps, frL [(2, .pub (.ptr (qK c))), (1, .pub (jD l)), (5, I (hlN (l.take q) + hl1 (l[q].take k.1))), (6, I (q:Int)), (7, I (k.1:Int))], []⟩) (fun k=>5 - k.1) (⟨0, by simp⟩) ?_ ?_
    ·
     exact zt _ ⟨Y, Y, (congrArg (fun x:Int=>I x) (by simp [hl1])), Y, Y, trivial⟩ (Y)
    ·
     rintro ⟨k, hk⟩
     dsimp only
     refine zuy (zuy (zh (zE8 (zi Y Y) (zE8 (qi Y Y Y) (zo (zf (zx Y (fun h2=>?_) (fun h2=>?_))))))))
     ·
      have hk5:k < 5:=by simp at h2; omega
      have hkl:k < l[q].length:=by omega
      have hst:=zeX hkl
      have hb1:=zkk (l[q].take k)
      have hb2:(l[q].take k).length <= 5:=by simp; omega
      refine zC (zf (zuy (zB (zuy (zh (zE8 (zq Y Y) (zE8 (zi Y Y) (zE8 (zG Y Y Y yJ (by omega) (xI hlt) vZ) (zE8 (zA Y Y Y ty9) (zE8 (zi Y Y) ?_))))))))))
      refine zE8 (wC Y Y Y Tryz.underlying9 (by omega) (by rw [Int.toNat_natCast]; exact List.getElem?_eq_getElem hkl)) ?_
      refine zE8 (qJ Y Y Y) (zo (zf (zx Y (fun h3=>?_) (fun h3=>?_))))
      ·
       have h63:l[q][k].toNat = 63:=by simp at h3; omega
       rw [if_pos h63] at hst
       have hcc:xq (l[q][k].toNat:Int) = true:=by simp [xq, zf4, h63]
       refine zh (zE8 (zi Y Y) (zE8 (zV Y Y Y ⟨(by omega), (by omega)⟩) (zE8 (zn Y Y) (zo (zD (zf (zh (zE8 (zi Y Y) (zE8 (zV Y Y Y ⟨(by omega), (by omega)⟩) (zE8 (zn Y Y) (zo ?_)))))))))))
       exact ⟨⟨k + 1, by omega, zd3 hk.2 hkl hcc⟩, by dsimp only; omega, (by refine zt (mem':=[]) _ ?_ ?_; exact ⟨Y, Y, (congrArg (fun x:Int=>I x) (by dsimp only; omega)), Y, Y, trivial⟩; exact Y)⟩
      ·
       have h63:¬ l[q][k].toNat = 63:=by simp at h3; omega
       rw [if_neg h63] at hst
       refine zuy (zh (zE8 (zq Y Y) (zE8 (zi Y Y) (zE8 (zG Y Y Y yJ (by omega) (xI hlt) vZ) (zE8 (zA Y Y Y ty9) (zE8 (zi Y Y) ?_))))))
       refine zE8 (wC Y Y Y Tryz.underlying9 (by omega) (by rw [Int.toNat_natCast]; exact List.getElem?_eq_getElem hkl)) ?_
       refine zE8 (zy (av:=[_]) Y ⟨Y, trivial⟩ (f120 _)) (zE8 (je Y Y) (zo (zf (zx Y (fun h4=>?_) (fun h4=>?_)))))
       ·
        have hno:xq (l[q][k].toNat:Int) = false:=by simp only[xq, Bool.or_eq_false_iff]; exact ⟨by simpa using h4, by simp [zf4]; omega⟩
        refine zuy (zh (zE8 (zn Y Y) (zo (zf (zP (qF (zQ (zQ (qF (qF (zQ ?_)))))))))))
        refine zQ (qF (zQ ?_))
        exact ⟨.inr Y, AVle.of (by rw [jX, zaW (p:=fun w=>ofB xq w) hlt (zqo hkl hno)]; rfl)⟩
       ·
        have hcc:xq (l[q][k].toNat:Int) = true:=by simp only[xq, Bool.or_eq_true]; exact .inl (by simpa using h4)
        refine zC (zD (zf (zh (zE8 (zi Y Y) (zE8 (zV Y Y Y ⟨(by omega), (by omega)⟩) (zE8 (zn Y Y) (zo ?_)))))))
        exact ⟨⟨k + 1, by omega, zd3 hk.2 hkl hcc⟩, by dsimp only; omega, (by refine zt (mem':=[]) _ ?_ ?_; exact ⟨Y, Y, (congrArg (fun x:Int=>I x) (by dsimp only; omega)), Y, Y, trivial⟩; exact Y)⟩
     ·
      have hge:l[q].length <= k:=by simp at h2; omega
      have hkk:l[q].take k = l[q]:=List.take_of_length_le hge
      have hyes:ofB xq l[q] = true:=zr2 h5 (by rw [hkk] at hk; exact hk.2)
      refine qp (zL (zL (qw (zD (zf (zh (zE8 (zi Y Y) (zE8 (zV Y Y Y ⟨(by omega), (by omega)⟩) (zE8 (zn Y Y) (zo ?_))))))))))
      exact ⟨⟨q + 1, by omega, xQ hq.2 hlt hyes⟩, by dsimp only; omega, (by refine zt (mem':=[]) _ ?_ ?_; exact ⟨Y, Y, (congrArg (fun x:Int=>I x) (by rw [hkk, ze6 hlt])), Y, trivial⟩; exact Y)⟩
  ·
   have hge:l.length <= q:=by simpa [jD] using h0
   have hq2:=hq.2
   have hk2:q = l.length:=by omega
   subst hk2
   have hln:=zie _ (zb4 hq2)
   rw [List.take_length] at hq2 hln
   refine qp (zL (zL (qw (zf (zuy (zh (zE8 (zq Y Y) (zE8 (qh Y Y Y Tryz.underlying34) (zE8 (zu Y Y jS) (zE8 (zA Y Y Y zah) (zE8 (qh Y Y Y Tryz.underlying22) ?_)))))))))))
   refine zE8 (zV Y Y Y ⟨(by omega), (by omega)⟩) (zE8 (qJ Y Y Y) (zE8 (zi Y Y) (zE9 Y (fun hg=>zi Y Y) (zE9 Y (fun hg=>zaq Y (if_pos hg) Y) (zE8 (qI Y Y Y Y) (zE8 (zn Y Y) (zo (zf (zP ?_)))))))))
   exact ⟨.inr Y, AVle.of (by rw [jX, hq2, Bool.true_and]; simp [jD])⟩
def dv2 (n:Int):Nat -> Int
 | 0=>n
 | k + 1=>dv2 n k / 2
theorem zh7 (n:Int):∀ k:Nat, dv2 n k = n / 2 ^ k
 | 0=>by simp [dv2]
 | k + 1=>by
  show dv2 n k / 2 = _
  rw [zh7 n k, Int.ediv_ediv_of_nonneg (by exact Int.le_of_lt (Int.pow_pos (by decide))), Int.pow_succ]
def zol (t:Int) (k:Nat):Bool:=dv2 t k % 2 == 1
def zcw (c:Cod) (f:Int):Int:=c.turns.getD f.toNat 0
def rgt (ch f:Int):Bool:=decide (ch = 63) || (ch - 48 == f)
def wrg (c:Cod) (ch f:Int):Bool:=zol (zcw c f) (ch - 48).toNat
def zbk (c:Cod) (ch f:Int):Int:=if rgt ch f then 1 else if wrg c ch f then 2 else 0
theorem zlY {c:Cod} (h:jA c = true):c.turns.length = 10 /\ ∀ t ∈ c.turns, 0 <= t /\ t <= 1023:=by
 simp only[jA, zLa, Bool.not_eq_true', beq_iff_eq] at h
 refine ⟨by omega, fun t ht=>?_⟩
 have h4:=h.2
 rw [List.any_eq_false] at h4
 have h5:=h4 t ht
 simp only[zhq, Bool.not_eq_true, Bool.not_eq_false', zdh] at h5
 exact h5
theorem zhH {c:Cod} (h:jA c = true) {f:Int} (hf:0 <= f /\ f <= 9):∃ h':f.toNat < c.turns.length, c.turns[f.toNat] = zcw c f /\ 0 <= zcw c f /\ zcw c f <= 1023:=by
 obtain ⟨h1, h2⟩:=zlY h
 have hl:f.toNat < c.turns.length:=by omega
 have e:c.turns[f.toNat] = zcw c f:=by simp [zcw, List.getD_eq_getElem?_getD, List.getElem?_eq_getElem hl]
 have:=h2 _ (List.getElem_mem hl)
 rw [e] at this
 exact ⟨hl, e, this⟩
theorem f119 (c:Cod) (ch f:Int) (hk:jA c = true) (hch:48 <= ch /\ ch <= 63) (hf:0 <= f /\ f <= 9):ACall Tryz.prog G 119 [.agg (qK c), .v (.int .u8 ch), .v (.int .i64 f)] (.v (.int .i64 (zbk c ch f))):=by
 obtain ⟨htl, hte, htb⟩:=zhH hk hf
 refine zS Tryz.func119 Y (by kernel_rfl) Y ?_
 refine zuy (zh (zE8 (jf Y (zY Y)) (zE8 (zn Y Y) (zo (zf (zuy (zh (zE8 (zi Y Y) (zE8 (zhQ Y Y Y (wrap_u8 (by omega))) (zE8 (y8 Y Y Tryz.underlying5 Tryz.underlying3 (zeq (by omega))) (zE8 (zn Y Y) ?_)))))))))))
 refine zo (zf (zuy (zB (zuy (zh (zE8 (zi Y Y) (zE8 (qJ Y Y Y) (zE8 (zi Y Y) (zE9 Y (fun hg=>zi Y Y) (zE9 Y (fun hg=>zi Y Y) (zE9 Y (fun hg=>qJ Y (if_pos hg) (if_pos hg)) ?_)))))))))))
 refine zE8 (qU Y Y Y Y) (zE8 (zn Y Y) (zo (zf (zx Y (fun h0=>?_) (fun h0=>?_)))))
 ·
  have hr:rgt ch f = true:=by simpa [rgt] using h0
  refine zuy (zh (zE8 (zn Y Y) (zo (zf (zP (qF (zQ ?_)))))))
  exact ⟨.inr Y, AVle.of (by simp [zbk, hr])⟩
 ·
  have hr:rgt ch f = false:=by simpa [rgt] using h0
  have hne:ch ≠ 63:=by simp [rgt] at hr; exact hr.1
  refine zuy (zh (zE8 (zu Y Y kU) (zE8 (zA Y Y Y jO) (zE8 (zi Y Y) ?_))))
  refine zE8 (zG Y Y Y jv (by omega) (by rw [List.getElem?_map, List.getElem?_eq_getElem htl, hte]; rfl) jC) ?_
  refine zE8 (zA Y Y Y ty3) (zE8 (zi Y Y) (zE8 (zsj Y Y Y (by omega) (by omega)) (zE8 (zr1 Y Y Y) (zE8 (qJ Y Y Y) (zE8 (zn Y Y) (zo (zf (zx Y (fun h1=>?_) (fun h1=>?_)))))))))
  ·
   have hw:wrg c ch f = true:=by simpa [wrg, zol, zh7] using h1
   refine zuy (zh (zE8 (zn Y Y) (zo (zf (zP (qF (zQ ?_)))))))
   exact ⟨.inr Y, AVle.of (by simp [zbk, hr, hw])⟩
  ·
   have hw:wrg c ch f = false:=by simpa [wrg, zol, zh7] using h1
   refine zC (zD (zf (zuy (zh (zE8 (zn Y Y) (zo (zf (zP ?_))))))))
   exact ⟨.inr Y, AVle.of (by simp [zbk, hr, hw])⟩
end Go.Av
end
