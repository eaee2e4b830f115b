import Derived.Test.YtgmbdadkbominaaGreatDoorChA
import Derived.Lib.Hide
set_option linter.unusedVariables false
set_option linter.unusedSimpArgs false
section
namespace Go.Av
namespace Ct
open Go.Proofs
set_option maxRecDepth 100000
set_option maxHeartbeats 1000000
variable {G:Glob}
def zfz (m:Mp) (s:Stn):Bool:=!inB s.pt 0 (m.wide * m.rows - 1) || decide (s.lo < 0) || decide (s.hi < s.lo) || decide (99999 < s.hi)
theorem zk9 (m:Mp) (s:Stn):zfz m s = !ziM m s:=by
 rw [Bool.eq_iff_iff]; simp [zfz, ziM, inB]; omega
def zpe:Stn:=⟨0, 0, 0⟩
theorem zot {α:Type} {p:α -> Bool} {l:List α} {k:Nat} (h:(l.take k).any p = false) (hk:k < l.length) (hp:p l[k] = false):(l.take (k + 1)).any p = false:=by
 rw [List.take_succ_eq_append_getElem hk, List.any_append, h]; simp [hp]
theorem zhB {α:Type} {p:α -> Bool} {l:List α} {k:Nat} (h:(l.take k).any p = false) (hk:k < l.length) (hp:p l[k] = true):l.find? p = some l[k]:=by
 have e:l = l.take k ++ l[k] :: l.drop (k + 1):=by rw [← List.drop_eq_getElem_cons hk, List.take_append_drop]
 have h1:(l.take k).find? p = none:=by rw [List.find?_eq_none]; intro x hx hp'; rw [List.any_eq_false] at h; exact h x hx hp'
 have h2:(l.take k ++ l[k] :: l.drop (k + 1)).find? p = some l[k]:=by rw [List.find?_append, h1]; simp only[Option.none_or, List.find?_cons, hp]
 rw [← e] at h2; exact h2
theorem zsh {α:Type} {p:α -> Bool} {l:List α} {k:Nat} (hk:k < l.length) (hp:p l[k] = true):l.any p = true:=by
 rw [List.any_eq_true]; exact ⟨l[k], List.getElem_mem hk, hp⟩
theorem f137 (m:Mp) (s:Stn) (h1:1 <= m.wide /\ m.wide <= 6) (h2:1 <= m.rows /\ m.rows <= 5):ACall Tryz.prog G 177 [.agg (zDn s), .ptr (eMp m)] (.v (.bool (zfz m s))):=by
 have har:=area h1.1 h1.2 h2.1 h2.2
 refine zO Tryz.func177 Y (by kernel_rfl) Y ?_
 refine zn (zf (ql Y (zQ Y)) (zf (zg Y Y) (zo (zn (zf (zi Y Y xk) (zf (zl Y Y Y ty3) (zf (zi Y Y yE) (zf (zl Y Y Y ty3) ?_))))))))
 refine zf (zi Y Y y9) (zf (zl Y Y Y ty3) (zf (ya Y Y Y ⟨by omega, by omega⟩) (zf (vN Y Y Y ⟨by omega, by omega⟩) (zf (zB (av:=[_, _, _]) Y ⟨Y, Y, Y, trivial⟩ (f68 _ _ _)) (zf (qJ Y Y) (zf (zh Y Y) (zC Y (fun hg=>zi Y Y jL) (zC Y (fun hg=>zi Y (if_pos hg) vF) (zC Y (fun hg=>zl Y (if_pos hg) Y ty3) (zC Y (fun hg=>qx Y (if_pos hg) Y) (zf (jf Y Y Y Y) ?_)))))))))))
 refine zf (zh Y Y) (zC Y (fun hg=>zi Y Y jL) (zC Y (fun hg=>zi Y (if_pos hg) vF) (zC Y (fun hg=>zl Y (if_pos hg) Y ty3) (zC Y (fun hg=>zi Y Y jL) (zC Y (fun hg=>zi Y (if_pos hg) vV) (zC Y (fun hg=>zl Y (if_pos hg) Y ty3) (zC Y (fun hg=>jB Y (if_pos hg) (if_pos hg)) (zf (jf Y Y Y Y) (zf (zh Y Y) (zC Y (fun hg=>zi Y Y jL) (zC Y (fun hg=>zi Y (if_pos hg) vV) ?_)))))))))))
 refine zC Y (fun hg=>zl Y (if_pos hg) Y ty3) (zC Y (fun hg=>jB Y (if_pos hg) Y) (zf (jf Y Y Y Y) (zf (zg Y Y) (zo (zN ?_)))))
 exact ⟨.inr Y, AVle.refl _⟩
theorem f103 (l:List Stn) (h:Stn -> Bool) (f:FuncId) (fs cs:List AV) (hl:l.length <= 1000) (hf:∀ s ∈ l, ACall Tryz.prog G f (fs ++ [.agg (zDn s)] ++ cs) (.v (.bool (h s)))):ACall Tryz.prog G 80 [.sl (l.map zDn), .fn f fs cs] (.tup [.agg (zDn ((l.find? h).getD zpe)), .v (.bool (l.any h))]):=by
 have hF:=Lib.hid hf
 clear hf
 refine zO Tryz.func80 Y (by kernel_rfl) Y ?_
 refine zn (qL Y (jr Y Y zgF Y Y) (zf (zg Y Y) (zo (zt (zn (zf (zI Y Y) (zf (qA Y Y Y Tryz.underlying67) (zf (zh Y Y) ?_))))))))
 refine zo (zF ?_)
 refine qm (ι:={ k:Nat // k <= l.length /\ (l.take k).any h = false }) (fun k=>⟨Tryz.f80.ntmps, frL [(1, .pub (.fn f fs cs)), (4, .pp 0 1 0 0), (9, .pub (.sl (l.map zDn))), (10, I (l.length:Int)), (11, I (k.1:Int))], [.row [[I 0, I 0, I 0]]]⟩) (fun k=>l.length - k.1) (⟨0, by simp⟩) ?_ ?_
 ·exact zy _ ⟨Y, Y, Y, (congrArg (fun x:Nat=>I (x:Int)) (List.length_map _)), Y, trivial⟩ (Y)
 ·rintro ⟨k, hk⟩
  dsimp only
  refine zn (zf (qx Y Y Y) (zo (zt (zA Y (fun h0=>?_) (fun h0=>?_)))))
  ·have hlt:k < l.length:=by simpa using h0
   refine zH (zk (zt (zF (zn (zf (zD Y Y Y zaC (by omega) (zcR hlt) zbj) (zf (zK Y Y xC (by exact zLb Y)) ?_))))))
   refine qP  Y Y Y Y Y Y Y zgF xC Y (by rfl) (zQ Y) Y ?_
   refine zo (zn (zf (zI Y Y) (zf (zK Y Y xC (by exact zLb Y)) (zf (vH (av:=[_]) Y Y ⟨Y, trivial⟩ (hF.out _ (List.getElem_mem hlt))) (zo (zA Y (fun h1=>?_) (fun h1=>?_)))))))
   ·refine zn (zf (zK Y Y xC (by exact zLb Y)) ?_)
    refine qL Y (qw Y Y Y Y Y Y (zQ Y) xC (by rfl) (by exact zLb Y)) ?_
    refine zf (zg Y Y) (zo (zN (zZ (zP (zP (zZ (zP ?_)))))))
    exact ⟨.inr Y, ⟨_, Y, ⟨_, _, Y, (jd Y Y Y Y xC Y ⟨_, _, Y, AVle.of (by rw [zhB hk.2 hlt h1]; rfl), ⟨_, _, Y, AVle.of (by rw [zhB hk.2 hlt h1]; rfl), ⟨_, _, Y, AVle.of (by rw [zhB hk.2 hlt h1]; rfl), Y⟩⟩⟩), ⟨_, _, Y, AVle.of (by rw [zsh hlt h1]), Y⟩⟩⟩⟩
   ·refine zH (zJ (zk (zx (zf (zW Y Y Y ⟨by omega, by omega⟩) (zf (zh Y Y) (zM ?_))))))
    exact ⟨⟨k + 1, by omega, zot hk.2 hlt h1⟩, by dsimp only; omega, zy _ ⟨Y, Y, Y, Y, Y, trivial⟩ (Y)⟩
  ·have hge:l.length <= k:=by simpa using h0
   refine zAj (zS (zS (zAi (zk (zn (qL Y (jr Y Y zgF Y Y) (zo (zn ?_))))))))
   refine zf (qV (cs:=[_, _, _]) Y Y Y Y Y (by exact zLb Y) Y xC) ?_
   refine qL Y (qw Y Y Y Y Y Y (zQ Y) xC (by rfl) (by exact zLb Y)) ?_
   refine zf (zg Y Y) (zo (zN ?_))
   exact ⟨.inr Y, ⟨_, Y, ⟨_, _, Y, (jd Y Y Y Y xC Y ⟨_, _, Y, AVle.of (by rw [List.take_of_length_le hge] at hk; rw [List.find?_eq_none.2 (by have:=hk.2; rw [List.any_eq_false] at this; simpa using this)]; rfl), ⟨_, _, Y, AVle.of (by rw [List.take_of_length_le hge] at hk; rw [List.find?_eq_none.2 (by have:=hk.2; rw [List.any_eq_false] at this; simpa using this)]; rfl), ⟨_, _, Y, AVle.of (by rw [List.take_of_length_le hge] at hk; rw [List.find?_eq_none.2 (by have:=hk.2; rw [List.any_eq_false] at this; simpa using this)]; rfl), Y⟩⟩⟩), ⟨_, _, Y, AVle.of (by rw [List.take_of_length_le hge] at hk; rw [hk.2]), Y⟩⟩⟩⟩
theorem zoO (m:Mp) (h:zbH m = true):mapB m = !(m.st.any (zfz m)):=by
 unfold mapB; rw [h, Bool.true_and]
 induction m.st with
 | nil=>rfl
 | cons s l ih=>simp [zk9, ih, List.any_cons, List.all_cons, Bool.not_or]
theorem f99 (m:Mp):ACall Tryz.prog G 78 [.agg (eMp m)] (.v (.bool (mapB m))):=by
 refine zO Tryz.func78 Y (by kernel_rfl) Y ?_
 refine zn (zf (ql Y (zQ Y)) (zf (zg Y Y) (zo (zt (zn (zf (zi Y Y yE) (zf (zl Y Y Y ty3) (zf (zB (av:=[_, _, _]) Y ⟨Y, Y, Y, trivial⟩ (f68 _ _ _)) ?_))))))))
 refine zf (qJ Y Y) (zf (zh Y Y) (zC Y (fun hg=>zi Y Y y9) (zC Y (fun hg=>zl Y (if_pos hg) Y ty3) (zC Y (fun hg=>zB (av:=[_, _, _]) Y ⟨((if_pos hg)), Y, Y, trivial⟩ (f68 _ _ _)) (zC Y (fun hg=>qJ Y (if_pos hg)) (zf (jf Y Y Y Y) (zf (zh Y Y) (zC Y (fun hg=>zi Y Y yO) (zC Y (fun hg=>zl Y (if_pos hg) Y ty3) (zC Y (fun hg=>zB (av:=[_, _, _]) Y ⟨((if_pos hg)), Y, Y, trivial⟩ (f68 _ _ _)) (zC Y (fun hg=>qJ Y (if_pos hg)) ?_)))))))))))
 refine zf (jf Y Y Y Y) (zf (zh Y Y) (zC Y (fun hg=>zi Y Y vZ) (zC Y (fun hg=>zl Y (if_pos hg) Y kS) (zC Y (fun hg=>qA Y Y (if_pos hg) Tryz.underlying67) (zC Y (fun hg=>jB Y (if_pos hg) Y) (zf (jf Y Y Y Y) (zo (zA Y (fun h0=>?_) (fun h0=>?_)))))))))
 ·have hf : zbH m = false := by
      rw [Bool.eq_false_iff]; intro hc; simp [zbH, inB] at hc h0; omega
  refine zn (zf (zg Y Y) (zo (zN (zP ?_))))
  exact ⟨.inr Y, AVle.of (by simp [mapB, hf])⟩
 ·have hh:zbH m = true:=by simp [zbH, inB] at h0 ⊢; omega
  have hw:1 <= m.wide /\ m.wide <= 6:=by simp_all [zbH, inB]
  have hr:1 <= m.rows /\ m.rows <= 5:=by simp_all [zbH, inB]
  have hl:m.st.length <= 12:=by simp [zbH] at hh; omega
  refine zH (zk (zn (zf (zi Y Y vZ) (zf (zl Y Y Y kS) (zf (wC (fs:=[]) (cs:=[_]) Y Y Y) (zf (zB (av:=[_, _]) Y ⟨Y, Y, trivial⟩ (f103 m.st (zfz m) 177 [] [.ptr (eMp m)] (by omega) (fun s _=>f137 m s hw hr))) (zf (zI Y Y) (zf (zU Y Y Y) (zf (zU Y Y Y) ?_)))))))))
  refine qP  Y Y Y Y Y Y Y zgF xC Y (by rfl) (zQ Y) Y ?_
  refine zf (zg Y Y) (zo (zn (zf (zh Y Y) (zf (qJ Y Y) (zf (zg Y Y) (zo (zN ?_)))))))
  exact ⟨.inr Y, AVle.of (by rw [zoO m hh])⟩
end Ct
end Go.Av
end
