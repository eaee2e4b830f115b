import Derived.Test.YtgmbdadkbominaaGreatDoorPlatE
import Derived.Test.YtgmbdadkbominaaGreatDoorProg
set_option linter.unusedVariables false
set_option linter.unusedSimpArgs false
section
namespace Go.Av
namespace Ct
open Go.Proofs
set_option maxRecDepth 100000
theorem yE:fldIs Tryz.prog 69 0 0 = true:=by kernel_rfl
theorem ty3:tyIs Tryz.prog 3 false 1 = true:=by kernel_rfl
theorem y9:fldIs Tryz.prog 69 1 1 = true:=by kernel_rfl
theorem yO:fldIs Tryz.prog 69 2 2 = true:=by kernel_rfl
theorem vZ:fldIs Tryz.prog 69 3 3 = true:=by kernel_rfl
theorem kS:tyIs Tryz.prog 67 false 1 = true:=by kernel_rfl
theorem zaC:kw Tryz.prog 67 3 = true:=by kernel_rfl
theorem xC:tyIs Tryz.prog 86 true 3 = true:=by kernel_rfl
theorem zgF:(Tryz.prog.info? 86).bind (·.zero) = some (.agg #[.int .i64 0, .int .i64 0, .int .i64 0]):=by kernel_rfl
theorem kN:tyIs Tryz.prog 69 true 4 = true:=by kernel_rfl
theorem xk:fldIs Tryz.prog 86 0 0 = true:=by kernel_rfl
theorem jL:fldIs Tryz.prog 86 1 1 = true:=by kernel_rfl
theorem vF:fldIs Tryz.prog 46 0 0 = true:=by kernel_rfl
theorem vV:fldIs Tryz.prog 46 1 1 = true:=by kernel_rfl
end Ct
end Go.Av
end
section
namespace Go.Av
namespace Ct
open Go.Proofs
set_option maxRecDepth 100000
set_option maxHeartbeats 1000000
variable {G:Glob}
structure Stn where
 pt:Int
 lo:Int
 hi:Int
structure Mp where
 wide:Int
 rows:Int
 slope:Int
 st:List Stn
structure Fld where
 wide:Int
 vals:List Int
def zDn (s:Stn):List AV:=[.v (.int .i64 s.pt), .v (.int .i64 s.lo), .v (.int .i64 s.hi)]
def eMp (m:Mp):List AV:=[.v (.int .i64 m.wide), .v (.int .i64 m.rows), .v (.int .i64 m.slope), .sl (m.st.map zDn)]
def inB (x lo hi:Int):Bool:=decide (lo <= x) && decide (x <= hi)
theorem zcR {l:List Stn} {k:Nat} (h:k < l.length):(l.map zDn)[k]? = some (zDn l[k]):=by simp [h]
theorem zbj {l:List Stn}:∀ q ∈ l.map zDn, q.length = 3:=by simp [zDn]
theorem f78 (x lo hi:Int):ACall Tryz.prog G 68 [.v (.int .i64 x), .v (.int .i64 lo), .v (.int .i64 hi)] (.v (.bool (inB x lo hi))):=by
 refine zO Tryz.func68 Y (by kernel_rfl) Y ?_
 refine zn (zf (zg Y Y) (zo (zn (zf (zh Y Y) (zf (zh Y Y) (zf (kG Y Y Y) (zf (zh Y Y) (zC Y (fun hg=>zh Y Y) ?_))))))))
 refine zC Y (fun hg=>zh Y Y) (zC Y (fun hg=>zbt Y (if_pos hg) (if_pos hg)) (zf (jg Y Y Y Y) (zf (zg Y Y) (zo (zN ?_)))))
 exact ⟨.inr Y, AVle.refl _⟩
theorem f68 (x lo hi:Int):ACall Tryz.prog G 82 [.v (.int .i64 x), .v (.int .i64 lo), .v (.int .i64 hi)] (.v (.bool (inB x lo hi))):=by
 refine zO Tryz.func82 Y (by kernel_rfl) Y ?_
 refine zn (zf (zg Y Y) (zo (zn (zf (zh Y Y) (zf (zh Y Y) (zf (kG Y Y Y) (zf (zh Y Y) (zC Y (fun hg=>zh Y Y) ?_))))))))
 refine zC Y (fun hg=>zh Y Y) (zC Y (fun hg=>zbt Y (if_pos hg) (if_pos hg)) (zf (jg Y Y Y Y) (zf (zg Y Y) (zo (zN ?_)))))
 exact ⟨.inr Y, AVle.refl _⟩
theorem f79 (x:Int):ACall Tryz.prog G 69 [.v (.int .i64 x)] (.v (.bool (inB x 0 99999))):=by
 refine zO Tryz.func69 Y (by kernel_rfl) Y ?_
 refine zn (zf (zg Y Y) (zo (zn (zf (zh Y Y) (zf (zB (av:=[_, _, _]) Y ⟨Y, Y, Y, trivial⟩ (f78 _ _ _)) (zf (zg Y Y) (zo ?_)))))))
 refine zN ?_
 exact ⟨.inr Y, AVle.refl _⟩
theorem f91 (x y:Int):ACall Tryz.prog G 70 [.v (.int .i64 x), .v (.int .i64 y)] (.v (.bool (inB x 1 6 && inB y 1 5))):=by
 refine zO Tryz.func70 Y (by kernel_rfl) Y ?_
 refine zn (zf (zg Y Y) (zo (zn (zf (zh Y Y) (zf (zB (av:=[_, _, _]) Y ⟨Y, Y, Y, trivial⟩ (f78 _ _ _)) (zf (zh Y Y) (zC Y (fun hg=>zh Y Y) (zC Y (fun hg=>zB (av:=[_, _, _]) Y ⟨((if_pos hg)), Y, Y, trivial⟩ (f78 _ _ _)) ?_))))))))
 refine zf (jg Y Y Y Y) (zf (zg Y Y) (zo (zN ?_)))
 exact ⟨.inr Y, AVle.refl _⟩
theorem f41 (m:Mp) (x:Int) (h1:1 <= m.wide /\ m.wide <= 6) (h2:1 <= m.rows /\ m.rows <= 5):ACall Tryz.prog G 20 [.agg (eMp m), .v (.int .i64 x)] (.v (.bool (inB x 0 (m.wide * m.rows - 1)))):=by
 have h3:1 * 1 <= m.wide * m.rows:=Int.mul_le_mul h1.1 h2.1 (by omega) (by omega)
 have h4:m.wide * m.rows <= 6 * 5:=Int.mul_le_mul h1.2 h2.2 (by omega) (by omega)
 refine zO Tryz.func20 Y (by kernel_rfl) Y ?_
 refine zn (zf (ql Y (zQ Y)) (zf (zg Y Y) (zo (zn (zf (zh Y Y) (zf (zi Y Y yE) (zf (zl Y Y Y ty3) (zf (zi Y Y y9) ?_))))))))
 refine zf (zl Y Y Y ty3) (zf (ya Y Y Y ⟨by omega, by omega⟩) (zf (vN Y Y Y ⟨by omega, by omega⟩) (zf (zB (av:=[_, _, _]) Y ⟨Y, Y, Y, trivial⟩ (f78 _ _ _)) (zf (zg Y Y) (zo (zN ?_))))))
 exact ⟨.inr Y, AVle.refl _⟩
def ziM (m:Mp) (s:Stn):Bool:=inB s.pt 0 (m.wide * m.rows - 1) && inB s.lo 0 99999 && inB s.hi 0 99999 && decide (s.lo <= s.hi)
def zbH (m:Mp):Bool:=inB m.wide 1 6 && inB m.rows 1 5 && inB m.slope 0 5000 && decide (m.st.length <= 12)
def mapB (m:Mp):Bool:=zbH m && m.st.all (ziM m)
theorem yF {α:Type} {p:α -> Bool} {l:List α} {k:Nat} (h:(l.take k).all p = true) (hk:k < l.length) (hp:p l[k] = true):(l.take (k + 1)).all p = true:=by
 rw [List.take_succ_eq_append_getElem hk, List.all_append, h]; simp [hp]
theorem xB {α:Type} {p:α -> Bool} {l:List α} {k:Nat} (hk:k < l.length) (hp:p l[k] = false):l.all p = false:=by
 rw [List.all_eq_false]; exact ⟨l[k], List.getElem_mem hk, by simp [hp]⟩
theorem f40 (m:Mp):ACall Tryz.prog G 18 [.agg (eMp m)] (.v (.bool (mapB m))):=by
 refine zO Tryz.func18 Y (by kernel_rfl) Y ?_
 refine zn (zf (ql Y (zQ Y)) (zf (zg Y Y) (zo (zt (zn (zf (zi Y Y yE) (zf (zl Y Y Y ty3) (zf (zi Y Y y9) ?_))))))))
 refine zf (zl Y Y Y ty3) (zf (zB (av:=[_, _]) Y ⟨Y, Y, trivial⟩ (f91 _ _)) (zf (qJ Y Y) (zf (zh Y Y) (zC Y (fun hg=>zi Y Y yO) (zC Y (fun hg=>zl Y (if_pos hg) Y ty3) (zC Y (fun hg=>zB (av:=[_, _, _]) Y ⟨((if_pos hg)), Y, Y, trivial⟩ (f78 _ _ _)) (zC Y (fun hg=>qJ Y (if_pos hg)) (zf (jf Y Y Y Y) (zf (zh Y Y) (zC Y (fun hg=>zi Y Y vZ) (zC Y (fun hg=>zl Y (if_pos hg) Y kS) ?_)))))))))))
 refine zC Y (fun hg=>qA Y Y (if_pos hg) Tryz.underlying67) (zC Y (fun hg=>jB Y (if_pos hg) Y) (zf (jf Y Y Y Y) (zo (zA Y (fun h0=>?_) (fun h0=>?_)))))
 ·have hf:zbH m = false:=by cases hc:zbH m <;> simp_all [zbH, inB] <;> omega
  refine zn (zf (zg Y Y) (zo (zN (zP ?_))))
  exact ⟨.inr Y, AVle.of (by simp [mapB, hf])⟩
 ·have hh:zbH m = true:=by simp [zbH, inB] at h0 ⊢; omega
  have hw:1 <= m.wide /\ m.wide <= 6:=by simp_all [zbH, inB]
  have hr:1 <= m.rows /\ m.rows <= 5:=by simp_all [zbH, inB]
  refine zH (zk (zt (zn (zf (zg Y Y) (zo (zF ?_))))))
  refine qm (ι:={ k:Nat // k <= m.st.length /\ (m.st.take k).all (ziM m) = true }) (fun k=>⟨Tryz.f18.ntmps, frL [(1, .pub (.ptr (eMp m))), (3, I (k.1:Int))], []⟩) (fun k=>m.st.length - k.1) (⟨0, by simp⟩) ?_ ?_
  ·exact zy _ ⟨Y, Y, trivial⟩ (Y)
  ·rintro ⟨k, hk⟩
   dsimp only
   refine zt (zn (zf (zh Y Y) (zf (zi Y Y vZ) (zf (zl Y Y Y kS) (zf (qA Y Y Y Tryz.underlying67) (zf (qx Y Y Y) (zo (zA Y (fun h1=>?_) (fun h1=>?_)))))))))
   ·have hlt:k < m.st.length:=by simpa using h1
    have hl:m.st.length <= 12:=by simp [zbH] at hh; omega
    refine zH (zk (zt (zF (zn (zf (zi Y Y vZ) (zf (zl Y Y Y kS) (zf (zh Y Y) (zf (zD Y Y Y zaC (by omega) (zcR hlt) zbj) (zf (zK Y Y xC (by exact zLb Y)) ?_)))))))))
    refine qP  Y Y Y Y Y Y Y zgF xC Y (by rfl) (zQ Y) Y ?_
    refine zo (zn (zf (zK Y Y kN (by exact zLb Y)) (zf (zi Y Y xk) (zf (zl Y Y Y ty3) (zf (zB (av:=[_, _]) Y ⟨Y, Y, trivial⟩ (f41 m _ hw hr)) (zf (qJ Y Y) (zf (zh Y Y) (zC Y (fun hg=>zi Y Y jL) (zC Y (fun hg=>zi Y (if_pos hg) vF) ?_)))))))))
    refine zC Y (fun hg=>zl Y (if_pos hg) Y ty3) (zC Y (fun hg=>zB (av:=[_]) Y ⟨((if_pos hg)), trivial⟩ (f79 _)) (zC Y (fun hg=>qJ Y (if_pos hg)) (zf (jf Y Y Y Y) (zf (zh Y Y) (zC Y (fun hg=>zi Y Y jL) (zC Y (fun hg=>zi Y (if_pos hg) vV) (zC Y (fun hg=>zl Y (if_pos hg) Y ty3) (zC Y (fun hg=>zB (av:=[_]) Y ⟨((if_pos hg)), trivial⟩ (f79 _)) (zC Y (fun hg=>qJ Y (if_pos hg)) (zf (jf Y Y Y Y) (zf (zh Y Y) ?_)))))))))))
    refine zC Y (fun hg=>zi Y Y jL) (zC Y (fun hg=>zi Y (if_pos hg) vF) (zC Y (fun hg=>zl Y (if_pos hg) Y ty3) (zC Y (fun hg=>zi Y Y jL) (zC Y (fun hg=>zi Y (if_pos hg) vV) (zC Y (fun hg=>zl Y (if_pos hg) Y ty3) (zC Y (fun hg=>jB Y (if_pos hg) (if_pos hg)) (zf (jf Y Y Y Y) (zo (zA Y (fun h2=>?_) (fun h2=>?_))))))))))
    ·have hs:ziM m m.st[k] = false:=by
      rw [Bool.eq_false_iff]; intro hc; simp [ziM, inB] at hc h2; omega
     refine zn (zf (zg Y Y) (zo (zN (zZ (zP (zP (zZ (zP ?_))))))))
     exact ⟨.inr Y, AVle.of (by simp [mapB, xB hlt hs])⟩
    ·have hs:ziM m m.st[k] = true:=by simp [ziM, inB] at h2 ⊢; omega
     refine zH (zJ (zk (zx (zf (zh Y Y) (zf (zW Y Y Y ⟨by omega, by omega⟩) (zf (zg Y Y) (zM ?_)))))))
     exact ⟨⟨k + 1, by omega, yF hk.2 hlt hs⟩, by dsimp only; omega, zy _ ⟨Y, Y, trivial⟩ (Y)⟩
   ·have hge:m.st.length <= k:=by simpa using h1
    refine zAj (zS (zS (zAi (zk (zn (zf (zg Y Y) (zo (zN ?_))))))))
    exact ⟨.inr Y, AVle.of (by rw [List.take_of_length_le hge] at hk; simp [mapB, hh, hk.2])⟩
def okM (m:Mp):Prop:=1 <= m.wide /\ m.wide <= 6 /\ 1 <= m.rows /\ m.rows <= 5 /\ 0 <= m.slope /\ m.slope <= 5000 /\ m.st.length <= 12 /\ ∀ s ∈ m.st, 0 <= s.pt /\ s.pt <= m.wide * m.rows - 1 /\ 0 <= s.lo /\ s.lo <= s.hi /\ s.hi <= 99999
theorem okM_iff (m:Mp):mapB m = true ↔ okM m:=by
 unfold mapB zbH okM ziM inB
 simp only[zLa, decide_eq_true_eq, List.all_eq_true]
 constructor
 ·rintro ⟨⟨⟨⟨h1, h2⟩, h3⟩, h4⟩, h5⟩
  refine ⟨h1.1, h1.2, h2.1, h2.2, h3.1, h3.2, h4, fun s hs=>?_⟩
  have:=h5 s hs
  omega
 ·rintro ⟨h1, h2, h3, h4, h5, h6, h7, h8⟩
  refine ⟨⟨⟨⟨⟨h1, h2⟩, h3, h4⟩, h5, h6⟩, h7⟩, fun s hs=>?_⟩
  have:=h8 s hs
  omega
theorem area {a b:Int} (h1:1 <= a) (h2:a <= 6) (h3:1 <= b) (h4:b <= 5):1 <= a * b /\ a * b <= 30:=
 ⟨by have:=Int.mul_le_mul h1 h3 (by omega) (by omega); omega, by have:=Int.mul_le_mul h2 h4 (by omega) (by omega); omega⟩
end Ct
end Go.Av
end
