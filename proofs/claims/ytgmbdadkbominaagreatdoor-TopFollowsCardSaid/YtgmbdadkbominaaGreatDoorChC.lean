import Derived.Test.YtgmbdadkbominaaGreatDoorChB
set_option linter.unusedVariables false
set_option linter.unusedSimpArgs false
section
namespace Go.Av
namespace Ct
open Go.Proofs
set_option maxRecDepth 100000
set_option maxHeartbeats 1000000
variable {G:Glob}
theorem zg2 {l:List Int} {h:Int -> Bool} {k:Nat} (h0:(l.take k).any h = false) (hk:k < l.length) (h1:h l[k] = false):(l.take (k + 1)).any h = false:=by
 rw [List.take_succ_eq_append_getElem hk, List.any_append, h0]; simp [h1]
theorem zl9 {l:List Int} {h:Int -> Bool} {k:Nat} (hk:k < l.length) (h1:h l[k] = true):l.any h = true:=List.any_eq_true.2 ⟨_, List.getElem_mem hk, h1⟩
def kV (f:Fld):Bool:=inB f.wide 1 6 && (((f.vals.length:Int) % f.wide == 0) && inB ((f.vals.length:Int) / f.wide) 1 5)
def zcO (f:Fld):Bool:=!(f.vals.any fun n=>!inB n 0 99999)
def fieldB (f:Fld):Bool:=kV f && zcO f
theorem zoM {f:Fld} {k:Nat} (hk:k < f.vals.length) (h:inB f.vals[k] 0 99999 = false):zcO f = false:=by
 unfold zcO; rw [zl9 (h:=fun n=>!inB n 0 99999) hk (by simp [h])]; rfl
theorem f28 (f:Fld) (hl:f.vals.length <= 1000):ACall Tryz.prog G 17 [.agg (eFld f)] (.v (.bool (fieldB f))):=by
 refine zO Tryz.func17 Y (by kernel_rfl) Y ?_
 refine zn (zf (ql Y (zQ Y)) (zf (zg Y Y) (zo (zt (zn (zf (zi Y Y jY) (zf (zl Y Y Y ty3) (zf (zB (av:=[_, _, _]) Y ⟨Y, Y, Y, trivial⟩ (f78 _ _ _)) ?_))))))))
 refine zf (qJ Y Y) (zf (zh Y Y) (zC Y (fun hg=>zi Y Y jo) (zC Y (fun hg=>zl Y (if_pos hg) Y jH) (zC Y (fun hg=>qA Y Y (if_pos hg) Tryz.underlying24) (zC Y (fun hg=>zi Y Y jY) (zC Y (fun hg=>zl Y (if_pos hg) Y ty3) ?_))))))
 refine zC Y (fun hg=>ku Y (if_pos hg) (if_pos hg) ⟨by simp, by have:=inB_iff.1 (by simpa using hg:inB f.wide 1 6 = true); omega⟩) ?_
 refine zC Y (fun hg=>wE Y (if_pos hg) Y) (zf (jf Y Y Y Y) (zf (zh Y Y) (zC Y (fun hg=>zi Y Y jo) (zC Y (fun hg=>zl Y (if_pos hg) Y jH) (zC Y (fun hg=>qA Y Y (if_pos hg) Tryz.underlying24) (zC Y (fun hg=>zi Y Y jY) (zC Y (fun hg=>zl Y (if_pos hg) Y ty3) ?_)))))))
 refine zC Y (fun hg=>x9 Y (if_pos hg) (if_pos hg) ⟨by simp, by simp; omega, by simp at hg; have:=inB_iff.1 hg.1; omega⟩) ?_
 refine zC Y (fun hg=>zB (av:=[_, _, _]) Y ⟨((if_pos hg)), Y, Y, trivial⟩ (f78 _ _ _)) (zC Y (fun hg=>qJ Y (if_pos hg)) (zf (jf Y Y Y Y) (zo (zA Y (fun h0=>?_) (fun h0=>?_)))))
 ·have hsh:kV f = false:=by unfold kV; simp at h0 ⊢; intro q1 q2; cases hq:inB ((f.vals.length:Int) / f.wide) 1 5; rfl; exfalso; simp [q1, q2, hq] at h0
  refine zn (zf (zg Y Y) (zo (zN (zP ?_))))
  exact ⟨.inr Y, AVle.of (by simp [fieldB, hsh])⟩
 ·have hsh:kV f = true:=by unfold kV; simp at h0 ⊢; exact ⟨h0.1.1, h0.1.2, h0.2⟩
  refine zH (zk (zt (zn (zf (zg Y Y) (zo (zF ?_))))))
  refine qm (ι:={ k:Nat // k <= f.vals.length /\ (f.vals.take k).any (fun n=>!inB n 0 99999) = false }) (fun k=>⟨Tryz.f17.ntmps, frL [(1, .pub (.ptr (eFld f))), (3, I (k.1:Int))], []⟩) (fun k=>f.vals.length - k.1) (⟨0, by simp⟩) ?_ ?_
  ·exact zy _ ⟨Y, Y, trivial⟩ (Y)
  ·rintro ⟨k, hk⟩
   dsimp only
   refine zt (zn (zf (zh Y Y) (zf (zi Y Y jo) (zf (zl Y Y Y jH) (zf (qA Y Y Y Tryz.underlying24) (zf (qx Y Y Y) (zo (zA Y (fun h1=>?_) (fun h1=>?_)))))))))
   ·have hlt:k < f.vals.length:=by simpa using h1
    refine zH (zk (zt (zF (zn (zf (zi Y Y jo) (zf (zl Y Y Y jH) (zf (zh Y Y) (zf (zD Y Y Y jV (by omega) (jM hlt) qH) (zf (zl Y Y Y ty3) (zf (zB (av:=[_]) Y ⟨Y, trivial⟩ (f79 _)) ?_))))))))))
    refine zf (qJ Y Y) (zo (zA Y (fun h2=>?_) (fun h2=>?_)))
    ·have hno:inB f.vals[k] 0 99999 = false:=by simpa using h2
     refine zn (zf (zg Y Y) (zo (zN (zZ (zP (zP (zZ (zP ?_))))))))
     exact ⟨.inr Y, AVle.of (by simp [fieldB, zoM hlt hno])⟩
    ·have hyes:inB f.vals[k] 0 99999 = true:=by simpa using h2
     refine zH (zJ (zk (zx (zf (zh Y Y) (zf (zW Y Y Y ⟨by omega, by omega⟩) (zf (zg Y Y) (zM ?_)))))))
     exact ⟨⟨k + 1, by omega, zg2 hk.2 hlt (by simp [hyes])⟩, by dsimp only; omega, zy _ ⟨Y, Y, trivial⟩ (Y)⟩
   ·have hge:f.vals.length <= k:=by simpa using h1
    refine qg (zS (zS (qh (zk (zn (zf (zg Y Y) (zo (zN ?_))))))))
    exact ⟨.inr Y, AVle.of (by have h:=hk.2; rw [List.take_of_length_le hge] at h; simp only[fieldB, hsh, zcO, h]; rfl)⟩
def zcK (m:Mp) (f:Fld) (i j:Nat):Bool:=(dist f.wide (i:Int) (j:Int) == 1) && decide (m.slope < vC (f.vals.getD i 0) (f.vals.getD j 0))
def zbf (m:Mp) (f:Fld):Bool:=(List.range f.vals.length).all fun i=>(List.range i).all fun j=>!zcK m f i j
def zfr (m:Mp) (f:Fld):Bool:=m.st.all fun s=>inB (f.vals.getD s.pt.toNat 0) s.lo s.hi
def zbw (m:Mp) (f:Fld):Bool:=(f.wide == m.wide) && ((f.vals.length:Int) == m.wide * m.rows)
def zaW (m:Mp) (f:Fld):Bool:=zbw m f && (zbf m f && zfr m f)
theorem fld_bd {f:Fld} (h:fieldB f = true):1 <= f.wide /\ f.wide <= 6 /\ ∀ n ∈ f.vals, 0 <= n /\ n <= 99999:=by
 unfold fieldB kV zcO at h
 simp only[zLa, Bool.not_eq_true', List.any_eq_false] at h
 obtain ⟨⟨h1, _⟩, h2⟩:=h
 have hw:=inB_iff.1 h1
 exact ⟨hw.1, hw.2, fun n hn=>inB_iff.1 (by have:=h2 n hn; simpa using this)⟩
theorem getD_at {l:List Int} {k:Nat} (h:k < l.length):l.getD k 0 = l[k]:=by simp [List.getD, h]
theorem zmf {m:Mp} {f:Fld} {i j:Nat} (hi:i < f.vals.length) (hj:j < f.vals.length):zcK m f i j = ((dist f.wide (i:Int) (j:Int) == 1) && decide (m.slope < vC f.vals[i] f.vals[j])):=by
 unfold zcK; rw [getD_at hi, getD_at hj]
theorem zn4 {m:Mp} {f:Fld} {i j:Nat} (hi:i < f.vals.length) (hj:j < i) (h:zcK m f i j = true):zbf m f = false:=by
 unfold zbf
 rw [List.all_eq_false]
 exact ⟨i, List.mem_range.2 hi, by simp only[Bool.not_eq_true, List.all_eq_false]; exact ⟨j, List.mem_range.2 hj, by simp [h]⟩⟩
theorem znf {m:Mp} {f:Fld} (h:∀ i < f.vals.length, ∀ j < i, zcK m f i j = false):zbf m f = true:=by
 unfold zbf
 rw [List.all_eq_true]
 intro i hi
 rw [List.all_eq_true]
 intro j hj
 rw [h i (List.mem_range.1 hi) j (List.mem_range.1 hj)]; rfl
theorem zpO {m:Mp} {f:Fld} {k:Nat} (hk:k < m.st.length) (h:inB (f.vals.getD m.st[k].pt.toNat 0) m.st[k].lo m.st[k].hi = false):zfr m f = false:=by
 unfold zfr
 rw [List.all_eq_false]
 exact ⟨_, List.getElem_mem hk, by rw [h]; exact Bool.false_ne_true⟩
theorem f45 (m:Mp) (f:Fld) (hm:okM m) (hf:fieldB f = true) (hl:f.vals.length <= 1000):ACall Tryz.prog G 19 [.agg (eMp m), .agg (eFld f)] (.v (.bool (zaW m f))):=by
 obtain ⟨b1, b2, b3⟩:=fld_bd hf
 have ho:=hm
 obtain ⟨m1, m2, m3, m4, m5, m6, m7, m8⟩:=ho
 have har:=area m1 m2 m3 m4
 refine zO Tryz.func19 Y (by kernel_rfl) Y ?_
 refine zn (zf (ql Y (zQ Y)) (zf (ql Y (zQ Y)) (zf (zg Y Y) (zo (zt (zn (zf (zi Y Y jY) (zf (zl Y Y Y ty3) ?_))))))))
 refine zf (zi Y Y yE) (zf (zl Y Y Y ty3) (zf (wE Y Y Y) (zf (zh Y Y) (zC Y (fun hg=>zi Y Y jo) (zC Y (fun hg=>zl Y (if_pos hg) Y jH) (zC Y (fun hg=>qA Y Y (if_pos hg) Tryz.underlying24) (zC Y (fun hg=>zi Y Y yE) (zC Y (fun hg=>zl Y (if_pos hg) Y ty3) (zC Y (fun hg=>zi Y Y y9) (zC Y (fun hg=>zl Y (if_pos hg) Y ty3) ?_))))))))))
 refine zC Y (fun hg=>ya Y (if_pos hg) (if_pos hg) ⟨(by first | omega | (simp at hg; omega)), (by first | omega | (simp at hg; omega))⟩) ?_
 refine zC Y (fun hg=>wE Y (if_pos hg) (if_pos hg)) (zf (jf Y Y Y Y) (zo (zA Y (fun h0=>?_) (fun h0=>?_))))
 ·have hsz:zbw m f = false:=by unfold zbw; revert h0; cases hq:(f.wide == m.wide) <;> simp_all
  refine zn (zf (zg Y Y) (zo (zN (zP ?_))))
  exact ⟨.inr Y, AVle.of (by simp [zaW, hsz])⟩
 ·have hsz:zbw m f = true:=by unfold zbw; revert h0; cases hq:(f.wide == m.wide) <;> simp_all
  have hsz2:(f.vals.length:Int) = m.wide * m.rows:=by unfold zbw at hsz; simp only[zLa, beq_iff_eq] at hsz; exact hsz.2
  refine zH (zk (zt (zn (zf (zg Y Y) (zo (zF ?_))))))
  refine qm (ι:={ k:Nat // k <= f.vals.length /\ ∀ i < k, ∀ j < i, zcK m f i j = false }) (fun k=>⟨Tryz.f19.ntmps, frL [(2, .pub (.ptr (eMp m))), (3, .pub (.ptr (eFld f))), (5, I (k.1:Int))], []⟩) (fun k=>f.vals.length - k.1) (⟨0, by omega, fun i hi=>absurd hi (by omega)⟩) ?_ ?_
  ·exact zy _ ⟨Y, Y, Y, trivial⟩ (Y)
  ·rintro ⟨k, hk⟩
   dsimp only
   refine zt (zn (zf (zh Y Y) (zf (zi Y Y jo) (zf (zl Y Y Y jH) (zf (qA Y Y Y Tryz.underlying24) (zf (qx Y Y Y) (zo (zA Y (fun h1=>?_) (fun h1=>?_)))))))))
   ·have hlt:k < f.vals.length:=by simpa using h1
    refine zH (zk (zt (zF (zn (zf (zg Y Y) (zo (zF ?_)))))))
    refine qm (ι:={ j:Nat // j <= k /\ ∀ x < j, zcK m f k x = false }) (fun j=>⟨Tryz.f19.ntmps, frL [(2, .pub (.ptr (eMp m))), (3, .pub (.ptr (eFld f))), (5, I (k:Int)), (6, I (j.1:Int))], []⟩) (fun j=>k - j.1) (⟨0, by omega, fun x hx=>absurd hx (by omega)⟩) ?_ ?_
    ·exact zy _ ⟨Y, Y, Y, Y, trivial⟩ (Y)
    ·rintro ⟨j, hj⟩
     dsimp only
     refine zt (zn (zf (zh Y Y) (zf (zh Y Y) (zf (qx Y Y Y) (zo (zA Y (fun h2=>?_) (fun h2=>?_)))))))
     ·have hjt:j < k:=by simpa using h2
      have hjl:j < f.vals.length:=by omega
      have v1:=b3 _ (List.getElem_mem hlt)
      have v2:=b3 _ (List.getElem_mem hjl)
      refine zH (zk (zt (zF (zt ?_))))
      refine qp mixed (by kernel_rfl) Y ?_
      refine zu Y (zi Y Y jY) (zu Y (zl Y Y Y ty3) (zu Y (zh Y Y) (zu Y (zh Y Y) (zu Y (zB (av:=[_, _, _]) Y ⟨Y, Y, Y, trivial⟩ (f35 _ _ _ (by omega) (by omega) (by omega))) (zu Y (zh Y Y) (zq Y (fun hg=>zi Y Y jo) (zq Y (fun hg=>zl Y (if_pos hg) Y jH) (zq Y (fun hg=>zh Y Y) (zq Y (fun hg=>zD Y (if_pos hg) (if_pos hg) jV (by omega) (jM hlt) qH) (zq Y (fun hg=>zl Y (if_pos hg) Y ty3) (zq Y (fun hg=>zi Y Y jo) ?_)))))))))))
      refine zq Y (fun hg=>zl Y (if_pos hg) Y jH) (zq Y (fun hg=>zh Y Y) (zq Y (fun hg=>zD Y (if_pos hg) (if_pos hg) jV (by omega) (jM hjl) qH) (zq Y (fun hg=>zl Y (if_pos hg) Y ty3) (zq Y (fun hg=>zB (av:=[_, _]) Y ⟨((if_pos hg)), ((if_pos hg)), trivial⟩ (f95 _ _ (by omega) (by omega))) (zq Y (fun hg=>zi Y Y yO) (zq Y (fun hg=>zl Y (if_pos hg) Y ty3) (zq Y (fun hg=>jB Y (if_pos hg) (if_pos hg)) (zu Y (jg Y Y Y Y) (qF (zk (zA Y (fun h3=>?_) (fun h3=>?_))))))))))))
      ·have hyes:zcK m f k j = true:=by rw [zmf hlt hjl]; revert h3; cases hq:(dist f.wide (k:Int) (j:Int) == 1) <;> simp
       refine zn (zf (zg Y Y) (zo (zN (zZ (zP (zP (zZ (zZ (zP ?_)))))))))
       refine zP (zZ (zP ?_))
       exact ⟨.inr Y, AVle.of (by simp [zaW, zn4 hlt hjt hyes])⟩
      ·have hno:zcK m f k j = false:=by rw [zmf hlt hjl]; revert h3; cases hq:(dist f.wide (k:Int) (j:Int) == 1) <;> simp
       refine zH (zJ (zk (zx (zf (zh Y Y) (zf (zW Y Y Y ⟨by omega, by omega⟩) (zf (zg Y Y) (zM ?_)))))))
       exact ⟨⟨j + 1, by omega, fun x hx => by
               by_cases e:x = j
               ·subst e; exact hno
               ·exact hj.2 x (by omega)⟩, by dsimp only; omega, zy _ ⟨Y, Y, Y, Y, trivial⟩ (Y)⟩
     ·have hjge:k <= j:=by simpa using h2
      refine qg (zS (zS (qh (zJ (zk (zx (zf (zh Y Y) (zf (zW Y Y Y ⟨by omega, by omega⟩) (zf (zg Y Y) (zM ?_))))))))))
      exact ⟨⟨k + 1, by omega, fun i hi x hx => by
               by_cases e:i = k
               ·subst e; exact hj.2 x (by omega)
               ·exact hk.2 i (by omega) x hx⟩, by dsimp only; omega, zy _ ⟨Y, Y, Y, trivial⟩ (Y)⟩
   ·have hge:f.vals.length <= k:=by simpa using h1
    have hpy:zbf m f = true:=znf fun i hi j hj=>hk.2 i (by omega) j hj
    refine qg (zS (zS (qh (zk (zt (zn (zf (zg Y Y) (zo (zF ?_)))))))))
    refine qm (ι:={ k:Nat // k <= m.st.length /\ ∀ i (h:i < m.st.length), i < k -> inB (f.vals.getD m.st[i].pt.toNat 0) m.st[i].lo m.st[i].hi = true }) (fun k=>⟨Tryz.f19.ntmps, frL [(2, .pub (.ptr (eMp m))), (3, .pub (.ptr (eFld f))), (7, I (k.1:Int))], []⟩) (fun k=>m.st.length - k.1) (⟨0, by omega, fun i _ hi=>absurd hi (by omega)⟩) ?_ ?_
    ·exact zy _ ⟨Y, Y, Y, trivial⟩ (Y)
    ·rintro ⟨k, hk⟩
     dsimp only
     refine zt (zn (zf (zh Y Y) (zf (zi Y Y vZ) (zf (zl Y Y Y kS) (zf (qA Y Y Y Tryz.underlying67) (zf (qx Y Y Y) (zo (zA Y (fun h4=>?_) (fun h4=>?_)))))))))
     ·have hlt:k < m.st.length:=by simpa using h4
      have hst:=m8 _ (List.getElem_mem hlt)
      have hpt:m.st[k].pt.toNat < f.vals.length:=by omega
      refine zH (zk (zt (zF (zn (zf (zi Y Y vZ) (zf (zl Y Y Y kS) (zf (zh Y Y) (zf (zD Y Y Y zaC (by omega) (zcR hlt) zbj) (zf (zK Y Y xC (by exact zLb Y)) ?_)))))))))
      refine qP  Y Y Y Y Y Y Y zgF xC Y (by rfl) (zQ Y) Y ?_
      refine zo (zt ?_)
      refine qp mixed (by kernel_rfl) Y ?_
      refine zu Y (zi Y Y jo) (zu Y (zl Y Y Y jH) (zu Y (zi Y Y xk) (zu Y (zl Y Y Y ty3) ?_)))
      refine zu Y (zD Y Y Y jV (by omega) (by simp [hpt]; rfl) qH) ?_
      refine zu Y (zl Y Y Y ty3) (zu Y (zi Y Y jL) (zu Y (zi Y Y vF) (zu Y (zl Y Y Y ty3) (zu Y (zi Y Y jL) (zu Y (zi Y Y vV) (zu Y (zl Y Y Y ty3) (zu Y (zB (av:=[_, _, _]) Y ⟨Y, Y, Y, trivial⟩ (f78 _ _ _)) (zu Y (qJ Y Y) (qF (zk (zA Y (fun h5=>?_) (fun h5=>?_))))))))))))
      ·have hno:inB (f.vals.getD m.st[k].pt.toNat 0) m.st[k].lo m.st[k].hi = false:=by rw [getD_at hpt]; simpa using h5
       refine zn (zf (zg Y Y) (zo (zN (zZ (zP (zP (zZ (zP ?_))))))))
       exact ⟨.inr Y, AVle.of (by simp [zaW, zpO hlt hno])⟩
      ·have hyes:inB (f.vals.getD m.st[k].pt.toNat 0) m.st[k].lo m.st[k].hi = true:=by rw [getD_at hpt]; simpa using h5
       refine zH (zJ (zk (zx (zf (zh Y Y) (zf (zW Y Y Y ⟨by omega, by omega⟩) (zf (zg Y Y) (zM ?_)))))))
       exact ⟨⟨k + 1, by omega, fun i h hi => by
               by_cases e:i = k
               ·subst e; exact hyes
               ·exact hk.2 i h (by omega)⟩, by dsimp only; omega, zy _ ⟨Y, Y, Y, trivial⟩ (Y)⟩
     ·have hge:m.st.length <= k:=by simpa using h4
      refine qg (zS (zS (qh (zk (zn (zf (zg Y Y) (zo (zN ?_))))))))
      exact ⟨.inr rfl, AVle.of (by rw [show zaW m f = true from by simp only[zaW, hsz, hpy, Bool.true_and]; unfold zfr; rw [List.all_eq_true]; intro s hs; obtain ⟨i, hi, rfl⟩:=List.getElem_of_mem hs; exact hk.2 i hi (by omega)])⟩
end Ct
end Go.Av
end
