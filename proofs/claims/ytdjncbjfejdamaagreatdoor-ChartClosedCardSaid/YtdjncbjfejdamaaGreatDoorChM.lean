import Derived.Test.YtdjncbjfejdamaaGreatDoorChP
set_option linter.unusedVariables false
set_option linter.unusedSimpArgs false
section
namespace Go.Av
open Go.Proofs
set_option maxRecDepth 100000
set_option maxHeartbeats 1000000
variable {G:Glob}
def zHz (f:Fld):Bool:=zH2 f && zJM f
theorem zOl {f:Fld} {k:Nat} (hk:k < f.vals.length) (h:inB f.vals[k] 0 99999 = false):zJM f = false:=by
 unfold zJM; rw [zMW (h:=fun n=>!inB n 0 99999) hk (by simp [h])]; rfl
theorem f28 (f:Fld) (hl:f.vals.length <= 1000):ACall Tryz.prog G 28 [.agg (zHF f)] (.v (.bool (zHz f))):=by
 refine zS Tryz.func28 rfl (by kernel_rfl) rfl ?_
 refine zuy (zh (zg rfl rfl (jf rfl (zY rfl)) (zg rfl rfl (zn rfl rfl) (zo (zf (zuy (zuy (zh (zg rfl rfl (zu rfl rfl zHB) (zg rfl rfl (zA rfl rfl rfl ty3) (zg rfl rfl (zy (av:=[_, _, _]) rfl ⟨rfl, rfl, rfl, trivial⟩ (f78 _ _ _)) ?_)))))))))))
 refine zg rfl rfl (je rfl rfl) (zg rfl rfl (zi rfl rfl) (zk rfl rfl rfl (fun hg=>zu rfl rfl zHx) (zk rfl rfl rfl (fun hg=>zA rfl (if_pos hg) rfl zHR) (zk rfl rfl rfl (fun hg=>qh rfl rfl (if_pos hg) Tryz.underlying27) (zk rfl rfl rfl (fun hg=>zu rfl rfl zHB) (zk rfl rfl rfl (fun hg=>zA rfl (if_pos hg) rfl ty3) ?_))))))
 refine zk rfl rfl rfl (fun hg=>yA rfl (if_pos hg) (if_pos hg) ⟨by simp, by have:=zdh.1 (by simpa using hg:inB f.wide 1 6 = true); omega⟩) ?_
 refine zk rfl rfl rfl (fun hg=>vg rfl (if_pos hg) rfl) (zg rfl rfl (qU rfl rfl rfl rfl) (zg rfl rfl (zi rfl rfl) (zk rfl rfl rfl (fun hg=>zu rfl rfl zHx) (zk rfl rfl rfl (fun hg=>zA rfl (if_pos hg) rfl zHR) (zk rfl rfl rfl (fun hg=>qh rfl rfl (if_pos hg) Tryz.underlying27) (zk rfl rfl rfl (fun hg=>zu rfl rfl zHB) (zk rfl rfl rfl (fun hg=>zA rfl (if_pos hg) rfl ty3) ?_)))))))
 refine zk rfl rfl rfl (fun hg=>zcj rfl (if_pos hg) (if_pos hg) ⟨by simp, by simp; omega, by simp at hg; have:=zdh.1 hg.1; omega⟩) ?_
 refine zk rfl rfl rfl (fun hg=>zy (av:=[_, _, _]) rfl ⟨((if_pos hg)), rfl, rfl, trivial⟩ (f78 _ _ _)) (zk rfl rfl rfl (fun hg=>je rfl (if_pos hg)) (zg rfl rfl (qU rfl rfl rfl rfl) (zo (zf (zx rfl (fun h0=>?_) (fun h0=>?_))))))
 ·
  have hsh:zH2 f = false:=by unfold zH2; simp at h0 ⊢; intro q1 q2; cases hq:inB ((f.vals.length:Int) / f.wide) 1 5; rfl; exfalso; simp [q1, q2, hq] at h0
  refine zuy (zh (zg rfl rfl (zn rfl rfl) (zo (zf (zP (zQ ?_))))))
  exact ⟨.inr rfl, AVle.of (by simp [zHz, hsh])⟩
 ·
  have hsh:zH2 f = true:=by unfold zH2; simp at h0 ⊢; exact ⟨h0.1.1, h0.1.2, h0.2⟩
  refine zC (zf (zuy (zuy (zh (zg rfl rfl (zn rfl rfl) (zo (zf (zB ?_))))))))
  refine qy (ι:={ k:Nat // k <= f.vals.length /\ (f.vals.take k).any (fun n=>!inB n 0 99999) = false }) (fun k=>⟨Tryz.f28.ntmps, frL [(1, .pub (.ptr (zHF f))), (3, I (k.1:Int))], []⟩) (fun k=>f.vals.length - k.1) (⟨0, by simp⟩) ?_ ?_
  ·
   exact zt _ ⟨rfl, rfl, trivial⟩ (rfl)
  ·
   rintro ⟨k, hk⟩
   dsimp only
   refine zuy (zuy (zh (zg rfl rfl (zi rfl rfl) (zg rfl rfl (zu rfl rfl zHx) (zg rfl rfl (zA rfl rfl rfl zHR) (zg rfl rfl (qh rfl rfl rfl Tryz.underlying27) (zg rfl rfl (zUB rfl rfl rfl) (zo (zf (zx rfl (fun h1=>?_) (fun h1=>?_)))))))))))
   ·
    have hlt:k < f.vals.length:=by simpa using h1
    refine zC (zf (zuy (zB (zuy (zh (zg rfl rfl (zu rfl rfl zHx) (zg rfl rfl (zA rfl rfl rfl zHR) (zg rfl rfl (zi rfl rfl) (zg rfl rfl (zVZ rfl rfl rfl zIz (by omega) (wu hlt) jC) (zg rfl rfl (zA rfl rfl rfl ty3) (zg rfl rfl (zy (av:=[_]) rfl ⟨rfl, trivial⟩ (f79 _)) ?_)))))))))))
    refine zg rfl rfl (je rfl rfl) (zo (zf (zx rfl (fun h2=>?_) (fun h2=>?_))))
    ·
     have hno:inB f.vals[k] 0 99999 = false:=by simpa using h2
     refine zuy (zh (zg rfl rfl (zn rfl rfl) (zo (zf (zP (qF (zQ (zQ (qF (zQ ?_))))))))))
     exact ⟨.inr rfl, AVle.of (by simp [zHz, zOl hlt hno])⟩
    ·
     have hyes:inB f.vals[k] 0 99999 = true:=by simpa using h2
     refine zC (zD (zf (zh (zg rfl rfl (zi rfl rfl) (zg rfl rfl (zV rfl rfl rfl ⟨(by omega), (by omega)⟩) (zg rfl rfl (zn rfl rfl) (zo ?_)))))))
     exact ⟨⟨k + 1, by omega, zKS hk.2 hlt (by simp [hyes])⟩, by dsimp only; omega, zt _ ⟨rfl, rfl, trivial⟩ (rfl)⟩
   ·
    have hge:f.vals.length <= k:=by simpa using h1
    refine qp (zRQ (zRQ (qw (zf (zuy (zh (zg rfl rfl (zn rfl rfl) (zo (zf (zP ?_))))))))))
    exact ⟨.inr rfl, AVle.of (by have h:=hk.2; rw [List.take_of_length_le hge] at h; simp only[zHz, hsh, zJM, h]; rfl)⟩
end Go.Av
end
section
namespace Go.Av
open Go.Proofs
set_option maxRecDepth 100000
set_option maxHeartbeats 1000000
variable {G:Glob}
def zVC (m:Mp) (f:Fld) (i j:Nat):Bool:=(dist f.wide (i:Int) (j:Int) == 1) && decide (m.slope < zSx (f.vals.getD i 0) (f.vals.getD j 0))
def zUV (m:Mp) (f:Fld):Bool:=(List.range f.vals.length).all fun i=>(List.range i).all fun j=>!zVC m f i j
def zVd (m:Mp) (f:Fld):Bool:=m.st.all fun s=>inB (f.vals.getD s.pt.toNat 0) s.lo s.hi
def zUL (m:Mp) (f:Fld):Bool:=(f.wide == m.wide) && ((f.vals.length:Int) == m.wide * m.rows)
def zUE (m:Mp) (f:Fld):Bool:=zUL m f && (zUV m f && zVd m f)
theorem zJI {f:Fld} (h:zHz f = true):1 <= f.wide /\ f.wide <= 6 /\ ∀ n ∈ f.vals, 0 <= n /\ n <= 99999:=by
 unfold zHz zH2 zJM at h
 simp only[zLa, Bool.not_eq_true', List.any_eq_false] at h
 obtain ⟨⟨h1, _⟩, h2⟩:=h
 have hw:=zdh.1 h1
 exact ⟨hw.1, hw.2, fun n hn=>zdh.1 (by have:=h2 n hn; simpa using this)⟩
theorem getD_at {l:List Int} {k:Nat} (h:k < l.length):l.getD k 0 = l[k]:=by simp [List.getD, h]
theorem zX3 {m:Mp} {f:Fld} {i j:Nat} (hi:i < f.vals.length) (hj:j < f.vals.length):zVC m f i j = ((dist f.wide (i:Int) (j:Int) == 1) && decide (m.slope < zSx f.vals[i] f.vals[j])):=by
 unfold zVC; rw [getD_at hi, getD_at hj]
theorem zYg {m:Mp} {f:Fld} {i j:Nat} (hi:i < f.vals.length) (hj:j < i) (h:zVC m f i j = true):zUV m f = false:=by
 unfold zUV
 rw [List.all_eq_false]
 exact ⟨i, List.mem_range.2 hi, by simp only[Bool.not_eq_true, List.all_eq_false]; exact ⟨j, List.mem_range.2 hj, by simp [h]⟩⟩
theorem zX5 {m:Mp} {f:Fld} (h:∀ i < f.vals.length, ∀ j < i, zVC m f i j = false):zUV m f = true:=by
 unfold zUV
 rw [List.all_eq_true]
 intro i hi
 rw [List.all_eq_true]
 intro j hj
 rw [h i (List.mem_range.1 hi) j (List.mem_range.1 hj)]; rfl
theorem zYE {m:Mp} {f:Fld} {k:Nat} (hk:k < m.st.length) (h:inB (f.vals.getD m.st[k].pt.toNat 0) m.st[k].lo m.st[k].hi = false):zVd m f = false:=by
 unfold zVd
 rw [List.all_eq_false]
 exact ⟨_, List.getElem_mem hk, by rw [h]; exact Bool.false_ne_true⟩
theorem f45 (m:Mp) (f:Fld) (hm:okM m) (hf:zHz f = true) (hl:f.vals.length <= 1000):ACall Tryz.prog G 45 [.agg (eMp m), .agg (zHF f)] (.v (.bool (zUE m f))):=by
 obtain ⟨b1, b2, b3⟩:=zJI hf
 have ho:=hm
 obtain ⟨m1, m2, m3, m4, m5, m6, m7, m8⟩:=ho
 have har:=area m1 m2 m3 m4
 refine zS Tryz.func45 rfl (by kernel_rfl) rfl ?_
 refine zuy (zh (zg rfl rfl (jf rfl (zY rfl)) (zg rfl rfl (jf rfl (zY rfl)) (zg rfl rfl (zn rfl rfl) (zo (zf (zuy (zuy (zh (zg rfl rfl (zu rfl rfl zHB) (zg rfl rfl (zA rfl rfl rfl ty3) ?_)))))))))))
 refine zg rfl rfl (zu rfl rfl zH6) (zg rfl rfl (zA rfl rfl rfl ty3) (zg rfl rfl (vg rfl rfl rfl) (zg rfl rfl (zi rfl rfl) (zk rfl rfl rfl (fun hg=>zu rfl rfl zHx) (zk rfl rfl rfl (fun hg=>zA rfl (if_pos hg) rfl zHR) (zk rfl rfl rfl (fun hg=>qh rfl rfl (if_pos hg) Tryz.underlying27) (zk rfl rfl rfl (fun hg=>zu rfl rfl zH6) (zk rfl rfl rfl (fun hg=>zA rfl (if_pos hg) rfl ty3) (zk rfl rfl rfl (fun hg=>zu rfl rfl zI9) (zk rfl rfl rfl (fun hg=>zA rfl (if_pos hg) rfl ty3) ?_))))))))))
 refine zk rfl rfl rfl (fun hg=>zcY rfl (if_pos hg) (if_pos hg) ⟨(by first | omega | (simp at hg; omega)), (by first | omega | (simp at hg; omega))⟩) ?_
 refine zk rfl rfl rfl (fun hg=>vg rfl (if_pos hg) (if_pos hg)) (zg rfl rfl (qU rfl rfl rfl rfl) (zo (zf (zx rfl (fun h0=>?_) (fun h0=>?_)))))
 ·
  have hsz:zUL m f = false:=by unfold zUL; revert h0; cases hq:(f.wide == m.wide) <;> simp_all
  refine zuy (zh (zg rfl rfl (zn rfl rfl) (zo (zf (zP (zQ ?_))))))
  exact ⟨.inr rfl, AVle.of (by simp [zUE, hsz])⟩
 ·
  have hsz:zUL m f = true:=by unfold zUL; revert h0; cases hq:(f.wide == m.wide) <;> simp_all
  have hsz2:(f.vals.length:Int) = m.wide * m.rows:=by unfold zUL at hsz; simp only[zLa, beq_iff_eq] at hsz; exact hsz.2
  refine zC (zf (zuy (zuy (zh (zg rfl rfl (zn rfl rfl) (zo (zf (zB ?_))))))))
  refine qy (ι:={ k:Nat // k <= f.vals.length /\ ∀ i < k, ∀ j < i, zVC m f i j = false }) (fun k=>⟨Tryz.f45.ntmps, frL [(2, .pub (.ptr (eMp m))), (3, .pub (.ptr (zHF f))), (5, I (k.1:Int))], []⟩) (fun k=>f.vals.length - k.1) (⟨0, by omega, fun i hi=>absurd hi (by omega)⟩) ?_ ?_
  ·
   exact zt _ ⟨rfl, rfl, rfl, trivial⟩ (rfl)
  ·
   rintro ⟨k, hk⟩
   dsimp only
   refine zuy (zuy (zh (zg rfl rfl (zi rfl rfl) (zg rfl rfl (zu rfl rfl zHx) (zg rfl rfl (zA rfl rfl rfl zHR) (zg rfl rfl (qh rfl rfl rfl Tryz.underlying27) (zg rfl rfl (zUB rfl rfl rfl) (zo (zf (zx rfl (fun h1=>?_) (fun h1=>?_)))))))))))
   ·
    have hlt:k < f.vals.length:=by simpa using h1
    refine zC (zf (zuy (zB (zuy (zh (zg rfl rfl (zn rfl rfl) (zo (zf (zB ?_)))))))))
    refine qy (ι:={ j:Nat // j <= k /\ ∀ x < j, zVC m f k x = false }) (fun j=>⟨Tryz.f45.ntmps, frL [(2, .pub (.ptr (eMp m))), (3, .pub (.ptr (zHF f))), (5, I (k:Int)), (6, I (j.1:Int))], []⟩) (fun j=>k - j.1) (⟨0, by omega, fun x hx=>absurd hx (by omega)⟩) ?_ ?_
    ·
     exact zt _ ⟨rfl, rfl, rfl, rfl, trivial⟩ (rfl)
    ·
     rintro ⟨j, hj⟩
     dsimp only
     refine zuy (zuy (zh (zg rfl rfl (zi rfl rfl) (zg rfl rfl (zi rfl rfl) (zg rfl rfl (zUB rfl rfl rfl) (zo (zf (zx rfl (fun h2=>?_) (fun h2=>?_)))))))))
     ·
      have hjt:j < k:=by simpa using h2
      have hjl:j < f.vals.length:=by omega
      have v1:=b3 _ (List.getElem_mem hlt)
      have v2:=b3 _ (List.getElem_mem hjl)
      refine zC (zf (zuy (zB (zuy ?_))))
      refine qY mixed (by kernel_rfl) rfl ?_
      refine zH rfl (zu rfl rfl zHB) (zH rfl (zA rfl rfl rfl ty3) (zH rfl (zi rfl rfl) (zH rfl (zi rfl rfl) (zH rfl (zy (av:=[_, _, _]) rfl ⟨rfl, rfl, rfl, trivial⟩ (f35 _ _ _ (by omega) (by omega) (by omega))) (zH rfl (zi rfl rfl) (jm rfl (fun hg=>zu rfl rfl zHx) (jm rfl (fun hg=>zA rfl (if_pos hg) rfl zHR) (jm rfl (fun hg=>zi rfl rfl) (jm rfl (fun hg=>zVZ rfl (if_pos hg) (if_pos hg) zIz (by omega) (wu hlt) jC) (jm rfl (fun hg=>zA rfl (if_pos hg) rfl ty3) (jm rfl (fun hg=>zu rfl rfl zHx) ?_)))))))))))
      refine jm rfl (fun hg=>zA rfl (if_pos hg) rfl zHR) (jm rfl (fun hg=>zi rfl rfl) (jm rfl (fun hg=>zVZ rfl (if_pos hg) (if_pos hg) zIz (by omega) (wu hjl) jC) (jm rfl (fun hg=>zA rfl (if_pos hg) rfl ty3) (jm rfl (fun hg=>zy (av:=[_, _]) rfl ⟨((if_pos hg)), ((if_pos hg)), trivial⟩ (f95 _ _ (by omega) (by omega))) (jm rfl (fun hg=>zu rfl rfl zI7) (jm rfl (fun hg=>zA rfl (if_pos hg) rfl ty3) (jm rfl (fun hg=>qR rfl (if_pos hg) (if_pos hg)) (zH rfl (qI rfl rfl rfl rfl) (jw (zf (zx rfl (fun h3=>?_) (fun h3=>?_))))))))))))
      ·
       have hyes:zVC m f k j = true:=by rw [zX3 hlt hjl]; revert h3; cases hq:(dist f.wide (k:Int) (j:Int) == 1) <;> simp
       refine zuy (zh (zg rfl rfl (zn rfl rfl) (zo (zf (zP (qF (zQ (zQ (qF (qF (zQ ?_)))))))))))
       refine zQ (qF (zQ ?_))
       exact ⟨.inr rfl, AVle.of (by simp [zUE, zYg hlt hjt hyes])⟩
      ·
       have hno:zVC m f k j = false:=by rw [zX3 hlt hjl]; revert h3; cases hq:(dist f.wide (k:Int) (j:Int) == 1) <;> simp
       refine zC (zD (zf (zh (zg rfl rfl (zi rfl rfl) (zg rfl rfl (zV rfl rfl rfl ⟨(by omega), (by omega)⟩) (zg rfl rfl (zn rfl rfl) (zo ?_)))))))
       exact ⟨⟨j + 1, by omega, fun x hx => by
               by_cases e:x = j
               ·
                subst e; exact hno
               ·
                exact hj.2 x (by omega)⟩, by dsimp only; omega, zt _ ⟨rfl, rfl, rfl, rfl, trivial⟩ (rfl)⟩
     ·
      have hjge:k <= j:=by simpa using h2
      refine qp (zRQ (zRQ (qw (zD (zf (zh (zg rfl rfl (zi rfl rfl) (zg rfl rfl (zV rfl rfl rfl ⟨(by omega), (by omega)⟩) (zg rfl rfl (zn rfl rfl) (zo ?_))))))))))
      exact ⟨⟨k + 1, by omega, fun i hi x hx => by
               by_cases e:i = k
               ·
                subst e; exact hj.2 x (by omega)
               ·
                exact hk.2 i (by omega) x hx⟩, by dsimp only; omega, zt _ ⟨rfl, rfl, rfl, trivial⟩ (rfl)⟩
   ·
    have hge:f.vals.length <= k:=by simpa using h1
    have hpy:zUV m f = true:=zX5 fun i hi j hj=>hk.2 i (by omega) j hj
    refine qp (zRQ (zRQ (qw (zf (zuy (zuy (zh (zg rfl rfl (zn rfl rfl) (zo (zf (zB ?_)))))))))))
    refine qy (ι:={ k:Nat // k <= m.st.length /\ ∀ i (h:i < m.st.length), i < k -> inB (f.vals.getD m.st[i].pt.toNat 0) m.st[i].lo m.st[i].hi = true }) (fun k=>⟨Tryz.f45.ntmps, frL [(2, .pub (.ptr (eMp m))), (3, .pub (.ptr (zHF f))), (7, I (k.1:Int))], []⟩) (fun k=>m.st.length - k.1) (⟨0, by omega, fun i _ hi=>absurd hi (by omega)⟩) ?_ ?_
    ·
     exact zt _ ⟨rfl, rfl, rfl, trivial⟩ (rfl)
    ·
     rintro ⟨k, hk⟩
     dsimp only
     refine zuy (zuy (zh (zg rfl rfl (zi rfl rfl) (zg rfl rfl (zu rfl rfl zHN) (zg rfl rfl (zA rfl rfl rfl zah) (zg rfl rfl (qh rfl rfl rfl Tryz.underlying22) (zg rfl rfl (zUB rfl rfl rfl) (zo (zf (zx rfl (fun h4=>?_) (fun h4=>?_)))))))))))
     ·
      have hlt:k < m.st.length:=by simpa using h4
      have hst:=m8 _ (List.getElem_mem hlt)
      have hpt:m.st[k].pt.toNat < f.vals.length:=by omega
      refine zC (zf (zuy (zB (zuy (zh (zg rfl rfl (zu rfl rfl zHN) (zg rfl rfl (zA rfl rfl rfl zah) (zg rfl rfl (zi rfl rfl) (zg rfl rfl (zVZ rfl rfl rfl zjm (by omega) (zIR hlt) zIs) (zg rfl rfl (zZ rfl rfl zIf (by exact zLb rfl)) ?_))))))))))
      refine vI  rfl rfl rfl rfl rfl rfl rfl zKF zIf rfl (by rfl) (zY rfl) rfl ?_
      refine zo (zf (zuy ?_))
      refine qY mixed (by kernel_rfl) rfl ?_
      refine zH rfl (zu rfl rfl zHx) (zH rfl (zA rfl rfl rfl zHR) (zH rfl (zu rfl rfl zIq) (zH rfl (zA rfl rfl rfl ty3) ?_)))
      refine zH rfl (zVZ rfl rfl rfl zIz (by omega) (by simp [hpt]; rfl) jC) ?_
      refine zH rfl (zA rfl rfl rfl ty3) (zH rfl (zu rfl rfl zHJ) (zH rfl (zu rfl rfl zHY) (zH rfl (zA rfl rfl rfl ty3) (zH rfl (zu rfl rfl zHJ) (zH rfl (zu rfl rfl zHX) (zH rfl (zA rfl rfl rfl ty3) (zH rfl (zy (av:=[_, _, _]) rfl ⟨rfl, rfl, rfl, trivial⟩ (f78 _ _ _)) (zH rfl (je rfl rfl) (jw (zf (zx rfl (fun h5=>?_) (fun h5=>?_))))))))))))
      ·
       have hno:inB (f.vals.getD m.st[k].pt.toNat 0) m.st[k].lo m.st[k].hi = false:=by rw [getD_at hpt]; simpa using h5
       refine zuy (zh (zg rfl rfl (zn rfl rfl) (zo (zf (zP (qF (zQ (zQ (qF (zQ ?_))))))))))
       exact ⟨.inr rfl, AVle.of (by simp [zUE, zYE hlt hno])⟩
      ·
       have hyes:inB (f.vals.getD m.st[k].pt.toNat 0) m.st[k].lo m.st[k].hi = true:=by rw [getD_at hpt]; simpa using h5
       refine zC (zD (zf (zh (zg rfl rfl (zi rfl rfl) (zg rfl rfl (zV rfl rfl rfl ⟨(by omega), (by omega)⟩) (zg rfl rfl (zn rfl rfl) (zo ?_)))))))
       exact ⟨⟨k + 1, by omega, fun i h hi => by
               by_cases e:i = k
               ·
                subst e; exact hyes
               ·
                exact hk.2 i h (by omega)⟩, by dsimp only; omega, zt _ ⟨rfl, rfl, rfl, trivial⟩ (rfl)⟩
     ·
      have hge:m.st.length <= k:=by simpa using h4
      refine qp (zRQ (zRQ (qw (zf (zuy (zh (zg rfl rfl (zn rfl rfl) (zo (zf (zP ?_))))))))))
      exact ⟨.inr rfl, AVle.of (by rw [show zUE m f = true from by simp only[zUE, hsz, hpy, Bool.true_and]; unfold zVd; rw [List.all_eq_true]; intro s hs; obtain ⟨i, hi, rfl⟩:=List.getElem_of_mem hs; exact hk.2 i hi (by omega)])⟩
end Go.Av
end
