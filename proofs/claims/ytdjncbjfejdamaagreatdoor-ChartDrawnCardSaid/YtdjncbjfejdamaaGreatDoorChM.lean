import Derived.Test.YtdjncbjfejdamaaGreatDoorChP
set_option linter.unusedVariables false
set_option linter.unusedSimpArgs false
section
namespace Go.Av
open Go.Proofs
set_option maxRecDepth 100000
set_option maxHeartbeats 1000000
variable {G:Glob}
def zHz (f:Fld):Bool:=zH2 f && zJM f
theorem zOl {f:Fld} {k:Nat} (hk:k < f.vals.length) (h:inB f.vals[k] 0 99999 = false):zJM f = false:=by
 unfold zJM; rw [zMW (h:=fun n=>!inB n 0 99999) hk (by simp [h])]; rfl
theorem f28 (f:Fld) (hl:f.vals.length <= 1000):ACall Tryz.prog G 28 [.agg (zHF f)] (.v (.bool (zHz f))):=by
 refine zS Tryz.func28 rfl (by kernel_rfl) rfl ?_
 refine zuy (zh (zg rfl rfl (jf rfl (zY rfl)) (zg rfl rfl (zn rfl rfl) (zo (zf (zuy (zuy (zh (zg rfl rfl (zu rfl rfl zHB) (zg rfl rfl (zA rfl rfl rfl ty3) (zg rfl rfl (zy (av:=[_, _, _]) rfl ⟨rfl, rfl, rfl, trivial⟩ (f78 _ _ _)) ?_)))))))))))
 refine zg rfl rfl (je rfl rfl) (zg rfl rfl (zi rfl rfl) (zk rfl rfl rfl (fun hg=>zu rfl rfl zHx) (zk rfl rfl rfl (fun hg=>zA rfl (if_pos hg) rfl zHR) (zk rfl rfl rfl (fun hg=>qh rfl rfl (if_pos hg) Tryz.underlying27) (zk rfl rfl rfl (fun hg=>zu rfl rfl zHB) (zk rfl rfl rfl (fun hg=>zA rfl (if_pos hg) rfl ty3) ?_))))))
 refine zk rfl rfl rfl (fun hg=>yA rfl (if_pos hg) (if_pos hg) ⟨by simp, by have:=zdh.1 (by simpa using hg:inB f.wide 1 6 = true); omega⟩) ?_
 refine zk rfl rfl rfl (fun hg=>vg rfl (if_pos hg) rfl) (zg rfl rfl (qU rfl rfl rfl rfl) (zg rfl rfl (zi rfl rfl) (zk rfl rfl rfl (fun hg=>zu rfl rfl zHx) (zk rfl rfl rfl (fun hg=>zA rfl (if_pos hg) rfl zHR) (zk rfl rfl rfl (fun hg=>qh rfl rfl (if_pos hg) Tryz.underlying27) (zk rfl rfl rfl (fun hg=>zu rfl rfl zHB) (zk rfl rfl rfl (fun hg=>zA rfl (if_pos hg) rfl ty3) ?_)))))))
 refine zk rfl rfl rfl (fun hg=>zcj rfl (if_pos hg) (if_pos hg) ⟨by simp, by simp; omega, by simp at hg; have:=zdh.1 hg.1; omega⟩) ?_
 refine zk rfl rfl rfl (fun hg=>zy (av:=[_, _, _]) rfl ⟨((if_pos hg)), rfl, rfl, trivial⟩ (f78 _ _ _)) (zk rfl rfl rfl (fun hg=>je rfl (if_pos hg)) (zg rfl rfl (qU rfl rfl rfl rfl) (zo (zf (zx rfl (fun h0=>?_) (fun h0=>?_))))))
 ·
  have hsh:zH2 f = false:=by unfold zH2; simp at h0 ⊢; intro q1 q2; cases hq:inB ((f.vals.length:Int) / f.wide) 1 5; rfl; exfalso; simp [q1, q2, hq] at h0
  refine zuy (zh (zg rfl rfl (zn rfl rfl) (zo (zf (zP (zQ ?_))))))
  exact ⟨.inr rfl, AVle.of (by simp [zHz, hsh])⟩
 ·
  have hsh:zH2 f = true:=by unfold zH2; simp at h0 ⊢; exact ⟨h0.1.1, h0.1.2, h0.2⟩
  refine zC (zf (zuy (zuy (zh (zg rfl rfl (zn rfl rfl) (zo (zf (zB ?_))))))))
  refine qy (ι:={ k:Nat // k <= f.vals.length /\ (f.vals.take k).any (fun n=>!inB n 0 99999) = false }) (fun k=>⟨Tryz.f28.ntmps, frL [(1, .pub (.ptr (zHF f))), (3, I (k.1:Int))], []⟩) (fun k=>f.vals.length - k.1) (⟨0, by simp⟩) ?_ ?_
  ·
   exact zt _ ⟨rfl, rfl, trivial⟩ (rfl)
  ·
   rintro ⟨k, hk⟩
   dsimp only
   refine zuy (zuy (zh (zg rfl rfl (zi rfl rfl) (zg rfl rfl (zu rfl rfl zHx) (zg rfl rfl (zA rfl rfl rfl zHR) (zg rfl rfl (qh rfl rfl rfl Tryz.underlying27) (zg rfl rfl (zUB rfl rfl rfl) (zo (zf (zx rfl (fun h1=>?_) (fun h1=>?_)))))))))))
   ·
    have hlt:k < f.vals.length:=by simpa using h1
    refine zC (zf (zuy (zB (zuy (zh (zg rfl rfl (zu rfl rfl zHx) (zg rfl rfl (zA rfl rfl rfl zHR) (zg rfl rfl (zi rfl rfl) (zg rfl rfl (zG rfl rfl rfl zIz (by omega) (wu hlt) jC) (zg rfl rfl (zA rfl rfl rfl ty3) (zg rfl rfl (zy (av:=[_]) rfl ⟨rfl, trivial⟩ (f79 _)) ?_)))))))))))
    refine zg rfl rfl (je rfl rfl) (zo (zf (zx rfl (fun h2=>?_) (fun h2=>?_))))
    ·
     have hno:inB f.vals[k] 0 99999 = false:=by simpa using h2
     refine zuy (zh (zg rfl rfl (zn rfl rfl) (zo (zf (zP (qF (zQ (zQ (qF (zQ ?_))))))))))
     exact ⟨.inr rfl, AVle.of (by simp [zHz, zOl hlt hno])⟩
    ·
     have hyes:inB f.vals[k] 0 99999 = true:=by simpa using h2
     refine zC (zD (zf (zh (zg rfl rfl (zi rfl rfl) (zg rfl rfl (zV rfl rfl rfl ⟨(by omega), (by omega)⟩) (zg rfl rfl (zn rfl rfl) (zo ?_)))))))
     exact ⟨⟨k + 1, by omega, zKS hk.2 hlt (by simp [hyes])⟩, by dsimp only; omega, zt _ ⟨rfl, rfl, trivial⟩ (rfl)⟩
   ·
    have hge:f.vals.length <= k:=by simpa using h1
    refine qp (zRQ (zRQ (qw (zf (zuy (zh (zg rfl rfl (zn rfl rfl) (zo (zf (zP ?_))))))))))
    exact ⟨.inr rfl, AVle.of (by have h:=hk.2; rw [List.take_of_length_le hge] at h; simp only[zHz, hsh, zJM, h]; rfl)⟩
end Go.Av
end
section
namespace Go.Av
open Go.Proofs
set_option maxRecDepth 100000
set_option maxHeartbeats 1000000
variable {G:Glob}
def zVC (m:Mp) (f:Fld) (i j:Nat):Bool:=(dist f.wide (i:Int) (j:Int) == 1) && decide (m.slope < zSx (f.vals.getD i 0) (f.vals.getD j 0))
def zUV (m:Mp) (f:Fld):Bool:=(List.range f.vals.length).all fun i=>(List.range i).all fun j=>!zVC m f i j
def zVd (m:Mp) (f:Fld):Bool:=m.st.all fun s=>inB (f.vals.getD s.pt.toNat 0) s.lo s.hi
def zUL (m:Mp) (f:Fld):Bool:=(f.wide == m.wide) && ((f.vals.length:Int) == m.wide * m.rows)
def zUE (m:Mp) (f:Fld):Bool:=zUL m f && (zUV m f && zVd m f)
theorem zJI {f:Fld} (h:zHz f = true):1 <= f.wide /\ f.wide <= 6 /\ ∀ n ∈ f.vals, 0 <= n /\ n <= 99999:=by
 unfold zHz zH2 zJM at h
 simp only[zLa, Bool.not_eq_true', List.any_eq_false] at h
 obtain ⟨⟨h1, _⟩, h2⟩:=h
 have hw:=zdh.1 h1
 exact ⟨hw.1, hw.2, fun n hn=>zdh.1 (by have:=h2 n hn; simpa using this)⟩
theorem getD_at {l:List Int} {k:Nat} (h:k < l.length):l.getD k 0 = l[k]:=by simp [List.getD, h]
end Go.Av
end
