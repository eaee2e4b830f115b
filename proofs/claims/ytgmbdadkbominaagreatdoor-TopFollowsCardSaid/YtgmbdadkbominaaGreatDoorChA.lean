import Derived.Test.YtgmbdadkbominaaGreatDoorPlatE
import Derived.Test.YtgmbdadkbominaaGreatDoorProg
set_option linter.unusedVariables false
set_option linter.unusedSimpArgs false
section
namespace Go.Av
namespace Ct
open Go.Proofs
set_option maxRecDepth 100000
theorem mixed:Tryz.prog.follows .mixedOrders = true:=by kernel_rfl
theorem yE:fldIs Tryz.prog 69 0 0 = true:=by kernel_rfl
theorem ty3:tyIs Tryz.prog 3 false 1 = true:=by kernel_rfl
theorem y9:fldIs Tryz.prog 69 1 1 = true:=by kernel_rfl
theorem yO:fldIs Tryz.prog 69 2 2 = true:=by kernel_rfl
theorem vZ:fldIs Tryz.prog 69 3 3 = true:=by kernel_rfl
theorem kS:tyIs Tryz.prog 67 false 1 = true:=by kernel_rfl
theorem zaC:kw Tryz.prog 67 3 = true:=by kernel_rfl
theorem xC:tyIs Tryz.prog 86 true 3 = true:=by kernel_rfl
theorem zgF:(Tryz.prog.info? 86).bind (·.zero) = some (.agg #[.int .i64 0, .int .i64 0, .int .i64 0]):=by kernel_rfl
theorem kN:tyIs Tryz.prog 69 true 4 = true:=by kernel_rfl
theorem xk:fldIs Tryz.prog 86 0 0 = true:=by kernel_rfl
theorem jL:fldIs Tryz.prog 86 1 1 = true:=by kernel_rfl
theorem vF:fldIs Tryz.prog 46 0 0 = true:=by kernel_rfl
theorem vV:fldIs Tryz.prog 46 1 1 = true:=by kernel_rfl
theorem ztW:vM Tryz.prog 46 [(0, 1), (1, 1)] [.int .i64 0, .int .i64 0]:=⟨_, Tryz.underlying46, by kernel_rfl, by kernel_rfl⟩
theorem jV:kw Tryz.prog 24 1 = true:=by kernel_rfl
theorem ti3:Tryz.prog.info? 3 = some Tryz.t3:=by kernel_rfl
theorem zdQ:fldIs Tryz.prog 172 0 0 = true:=by kernel_rfl
theorem yw:tyIs Tryz.prog 172 true 2 = true:=by kernel_rfl
theorem jQ:fldIs Tryz.prog 174 0 0 = true:=by kernel_rfl
theorem yI:fldIs Tryz.prog 174 1 4 = true:=by kernel_rfl
theorem zbX:(Tryz.prog.info? 186).bind (·.zero) = some (.agg #[.slice none 0 0, .slice none 0 0]):=by kernel_rfl
theorem jF:tyIs Tryz.prog 174 true 6 = true:=by kernel_rfl
theorem ztG:ze3 Tryz.prog 296 1 [.nilFunc, .nilFunc]:=⟨_, _, Tryz.t205, Tryz.underlying296, by kernel_rfl, by kernel_rfl, by kernel_rfl⟩
theorem znA:zeE Tryz.prog 296 2 1 = true:=by kernel_rfl
theorem zro:tyIs Tryz.prog 205 false 1 = true:=by kernel_rfl
theorem ji:zeE Tryz.prog 186 2 1 = true:=by kernel_rfl
theorem jH:tyIs Tryz.prog 24 false 1 = true:=by kernel_rfl
theorem zmV:elemIs Tryz.prog 24 3 1 8:=⟨Tryz.underlying24, Tryz.t3, _, by kernel_rfl, rfl, rfl, rfl, rfl, by decide⟩
theorem zby:tyIs Tryz.prog 186 true 2 = true:=by kernel_rfl
theorem zex:(Tryz.prog.info? 174).bind (·.zero) = some (.agg #[.int .i64 0, .int .i64 0, .int .i64 0, .slice none 0 0, .int .i64 0, .int .i64 0]):=by kernel_rfl
theorem zt6:vM Tryz.prog 172 [(0, 1), (1, 1)] [.int .i64 0, .int .i64 0]:=⟨_, Tryz.underlying172, by kernel_rfl, by kernel_rfl⟩
theorem ztn:vM Tryz.prog 174 [(0, 4), (4, 2)] [.int .i64 0, .int .i64 0, .int .i64 0, .slice none 0 0, .int .i64 0, .int .i64 0]:=⟨_, Tryz.underlying174, by kernel_rfl, by kernel_rfl⟩
theorem jo:fldIs Tryz.prog 63 1 1 = true:=by kernel_rfl
theorem ztN:Tryz.prog.info? 46 = some Tryz.t46:=by kernel_rfl
theorem ztM:elemIs Tryz.prog 23 46 2 16:=⟨Tryz.underlying23, Tryz.t46, _, by kernel_rfl, rfl, rfl, rfl, rfl, by decide⟩
theorem jY:fldIs Tryz.prog 63 0 0 = true:=by kernel_rfl
end Ct
end Go.Av
end
section
namespace Go.Av
namespace Ct
open Go.Proofs
set_option maxRecDepth 100000
set_option maxHeartbeats 1000000
variable {G:Glob}
structure Stn where
 pt:Int
 lo:Int
 hi:Int
structure Mp where
 wide:Int
 rows:Int
 slope:Int
 st:List Stn
structure Fld where
 wide:Int
 vals:List Int
def ei (n:Int):AV:=.v (.int .i64 n)
def eStn (s:Stn):List AV:=[.v (.int .i64 s.pt), .v (.int .i64 s.lo), .v (.int .i64 s.hi)]
def eMp (m:Mp):List AV:=[.v (.int .i64 m.wide), .v (.int .i64 m.rows), .v (.int .i64 m.slope), .sl (m.st.map eStn)]
def eInts (l:List Int):AV:=.sl (l.map fun n=>[.v (.int .i64 n)])
def eFld (f:Fld):List AV:=[.v (.int .i64 f.wide), eInts f.vals]
def inB (x lo hi:Int):Bool:=decide (lo <= x) && decide (x <= hi)
def vC (a b:Int):Int:=max (a - b) (b - a)
def dist (w a b:Int):Int:=vC (a / w) (b / w) + vC (a % w) (b % w)
theorem inB_iff {x lo hi:Int}:inB x lo hi = true ↔ lo <= x /\ x <= hi:=by simp [inB]
theorem dm {a w N:Int} (hw:1 <= w) (ha:0 <= a /\ a <= N):0 <= a / w /\ a / w <= N /\ 0 <= a % w /\ a % w < w:=
 ⟨Int.ediv_nonneg ha.1 (by omega), Int.le_trans (Int.ediv_le_self _ ha.1) ha.2, Int.emod_nonneg _ (by omega), Int.emod_lt_of_pos _ (by omega)⟩
theorem zaf {a b N:Int} (ha:0 <= a /\ a <= N) (hb:0 <= b /\ b <= N):0 <= vC a b /\ vC a b <= N:=by unfold vC; omega
theorem zh4 {w a b N:Int} (hw:1 <= w) (ha:0 <= a /\ a <= N) (hb:0 <= b /\ b <= N):0 <= dist w a b /\ dist w a b <= N + w:=by
 have h1:=dm hw ha
 have h2:=dm hw hb
 have h3:=zaf (N:=N) ⟨h1.1, h1.2.1⟩ ⟨h2.1, h2.2.1⟩
 have h4:=zaf (N:=w) ⟨h1.2.2.1, by omega⟩ ⟨h2.2.2.1, by omega⟩
 unfold dist; omega
theorem zcR {l:List Stn} {k:Nat} (h:k < l.length):(l.map eStn)[k]? = some (eStn l[k]):=by simp [h]
theorem zbj {l:List Stn}:∀ q ∈ l.map eStn, q.length = 3:=by simp [eStn]
theorem jM {l:List Int} {k:Nat} (h:k < l.length):(l.map fun n=>[AV.v (.int .i64 n)])[k]? = some [.v (.int .i64 l[k])]:=by simp [h]
theorem qH {l:List Int}:∀ q ∈ l.map (fun n=>[AV.v (.int .i64 n)]), q.length = 1:=by simp
theorem f78 (x lo hi:Int):ACall Tryz.prog G 68 [.v (.int .i64 x), .v (.int .i64 lo), .v (.int .i64 hi)] (.v (.bool (inB x lo hi))):=by
 refine zO Tryz.func68 Y (by kernel_rfl) Y ?_
 refine zn (zf (zg Y Y) (zo (zn (zf (zh Y Y) (zf (zh Y Y) (zf (kG Y Y Y) (zf (zh Y Y) (zC Y (fun hg=>zh Y Y) ?_))))))))
 refine zC Y (fun hg=>zh Y Y) (zC Y (fun hg=>zbt Y (if_pos hg) (if_pos hg)) (zf (jg Y Y Y Y) (zf (zg Y Y) (zo (zN ?_)))))
 exact ⟨.inr Y, AVle.refl _⟩
theorem f68 (x lo hi:Int):ACall Tryz.prog G 82 [.v (.int .i64 x), .v (.int .i64 lo), .v (.int .i64 hi)] (.v (.bool (inB x lo hi))):=by
 refine zO Tryz.func82 Y (by kernel_rfl) Y ?_
 refine zn (zf (zg Y Y) (zo (zn (zf (zh Y Y) (zf (zh Y Y) (zf (kG Y Y Y) (zf (zh Y Y) (zC Y (fun hg=>zh Y Y) ?_))))))))
 refine zC Y (fun hg=>zh Y Y) (zC Y (fun hg=>zbt Y (if_pos hg) (if_pos hg)) (zf (jg Y Y Y Y) (zf (zg Y Y) (zo (zN ?_)))))
 exact ⟨.inr Y, AVle.refl _⟩
theorem f95 (a b:Int) (ha:-1000000000000 <= a /\ a <= 1000000000000) (hb:-1000000000000 <= b /\ b <= 1000000000000):ACall Tryz.prog G 72 [.v (.int .i64 a), .v (.int .i64 b)] (.v (.int .i64 (vC a b))):=by
 refine zO Tryz.func72 Y (by kernel_rfl) Y ?_
 refine zn (zf (zg Y Y) (zo (zn (zf (zh Y Y) (zf (zh Y Y) (zf (vN Y Y Y ⟨by omega, by omega⟩) (zf (zh Y Y) (zf (zh Y Y) ?_))))))))
 refine zf (vN Y Y Y ⟨by omega, by omega⟩) (zf (zrp Y Y Y) (zf (zg Y Y) (zo (zN ?_))))
 exact ⟨.inr Y, AVle.refl _⟩
theorem f55 (w a b:Int) (hw:1 <= w /\ w <= 1000) (ha:0 <= a /\ a <= 100000) (hb:0 <= b /\ b <= 100000):ACall Tryz.prog G 168 [.v (.int .i64 w), .v (.int .i64 a), .v (.int .i64 b)] (.v (.int .i64 (dist w a b))):=by
 have h1:=dm hw.1 ha
 have h2:=dm hw.1 hb
 have h3:=zaf (N:=100000) ⟨h1.1, h1.2.1⟩ ⟨h2.1, h2.2.1⟩
 have h4:=zaf (N:=w) ⟨h1.2.2.1, by omega⟩ ⟨h2.2.2.1, by omega⟩
 refine zO Tryz.func168 Y (by kernel_rfl) Y ?_
 refine zn (zf (zg Y Y) (zo (zt ?_)))
 refine qp mixed (by kernel_rfl) Y ?_
 refine zu Y (zh Y Y) (zu Y (zh Y Y) (zu Y (x9 Y Y Y ⟨(by omega), by omega, by omega⟩) (zu Y (zh Y Y) (zu Y (zh Y Y) (zu Y (x9 Y Y Y ⟨(by omega), by omega, by omega⟩) (zu Y (zB (av:=[_, _]) Y ⟨Y, Y, trivial⟩ (f95 _ _ (by omega) (by omega))) (zu Y (zh Y Y) (zu Y (zh Y Y) (zu Y (ku Y Y Y ⟨by omega, by omega⟩) (zu Y (zh Y Y) (zu Y (zh Y Y) ?_)))))))))))
 refine zu Y (ku Y Y Y ⟨by omega, by omega⟩) (zu Y (zB (av:=[_, _]) Y ⟨Y, Y, trivial⟩ (f95 _ _ (by omega) (by omega))) (zu Y (zW Y Y Y ⟨by omega, by omega⟩) (zu Y (zg Y Y) (qF (zk (zN ?_))))))
 exact ⟨.inr Y, AVle.refl _⟩
theorem f35 (w a b:Int) (hw:1 <= w /\ w <= 1000) (ha:0 <= a /\ a <= 100000) (hb:0 <= b /\ b <= 100000):ACall Tryz.prog G 71 [.v (.int .i64 w), .v (.int .i64 a), .v (.int .i64 b)] (.v (.bool (dist w a b == 1))):=by
 refine zO Tryz.func71 Y (by kernel_rfl) Y ?_
 refine zn (zf (zg Y Y) (zo (zn (zf (zh Y Y) (zf (zh Y Y) (zf (zh Y Y) (zf (zB (av:=[_, _, _]) Y ⟨Y, Y, Y, trivial⟩ (f55 _ _ _ hw ha hb)) (zf (qR Y Y Y) ?_))))))))
 refine zf (zg Y Y) (zo (zN ?_))
 exact ⟨.inr Y, AVle.refl _⟩
theorem f79 (x:Int):ACall Tryz.prog G 69 [.v (.int .i64 x)] (.v (.bool (inB x 0 99999))):=by
 refine zO Tryz.func69 Y (by kernel_rfl) Y ?_
 refine zn (zf (zg Y Y) (zo (zn (zf (zh Y Y) (zf (zB (av:=[_, _, _]) Y ⟨Y, Y, Y, trivial⟩ (f78 _ _ _)) (zf (zg Y Y) (zo ?_)))))))
 refine zN ?_
 exact ⟨.inr Y, AVle.refl _⟩
theorem f91 (x y:Int):ACall Tryz.prog G 70 [.v (.int .i64 x), .v (.int .i64 y)] (.v (.bool (inB x 1 6 && inB y 1 5))):=by
 refine zO Tryz.func70 Y (by kernel_rfl) Y ?_
 refine zn (zf (zg Y Y) (zo (zn (zf (zh Y Y) (zf (zB (av:=[_, _, _]) Y ⟨Y, Y, Y, trivial⟩ (f78 _ _ _)) (zf (zh Y Y) (zC Y (fun hg=>zh Y Y) (zC Y (fun hg=>zB (av:=[_, _, _]) Y ⟨((if_pos hg)), Y, Y, trivial⟩ (f78 _ _ _)) ?_))))))))
 refine zf (jg Y Y Y Y) (zf (zg Y Y) (zo (zN ?_)))
 exact ⟨.inr Y, AVle.refl _⟩
theorem f41 (m:Mp) (x:Int) (h1:1 <= m.wide /\ m.wide <= 6) (h2:1 <= m.rows /\ m.rows <= 5):ACall Tryz.prog G 20 [.agg (eMp m), .v (.int .i64 x)] (.v (.bool (inB x 0 (m.wide * m.rows - 1)))):=by
 have h3:1 * 1 <= m.wide * m.rows:=Int.mul_le_mul h1.1 h2.1 (by omega) (by omega)
 have h4:m.wide * m.rows <= 6 * 5:=Int.mul_le_mul h1.2 h2.2 (by omega) (by omega)
 refine zO Tryz.func20 Y (by kernel_rfl) Y ?_
 refine zn (zf (ql Y (zQ Y)) (zf (zg Y Y) (zo (zn (zf (zh Y Y) (zf (zi Y Y yE) (zf (zl Y Y Y ty3) (zf (zi Y Y y9) ?_))))))))
 refine zf (zl Y Y Y ty3) (zf (ya Y Y Y ⟨by omega, by omega⟩) (zf (vN Y Y Y ⟨by omega, by omega⟩) (zf (zB (av:=[_, _, _]) Y ⟨Y, Y, Y, trivial⟩ (f78 _ _ _)) (zf (zg Y Y) (zo (zN ?_))))))
 exact ⟨.inr Y, AVle.refl _⟩
def ziM (m:Mp) (s:Stn):Bool:=inB s.pt 0 (m.wide * m.rows - 1) && inB s.lo 0 99999 && inB s.hi 0 99999 && decide (s.lo <= s.hi)
def zbH (m:Mp):Bool:=inB m.wide 1 6 && inB m.rows 1 5 && inB m.slope 0 5000 && decide (m.st.length <= 12)
def zfP (m:Mp):Bool:=zbH m && m.st.all (ziM m)
theorem yF {α:Type} {p:α -> Bool} {l:List α} {k:Nat} (h:(l.take k).all p = true) (hk:k < l.length) (hp:p l[k] = true):(l.take (k + 1)).all p = true:=by
 rw [List.take_succ_eq_append_getElem hk, List.all_append, h]; simp [hp]
theorem xB {α:Type} {p:α -> Bool} {l:List α} {k:Nat} (hk:k < l.length) (hp:p l[k] = false):l.all p = false:=by
 rw [List.all_eq_false]; exact ⟨l[k], List.getElem_mem hk, by simp [hp]⟩
theorem f40 (m:Mp):ACall Tryz.prog G 18 [.agg (eMp m)] (.v (.bool (zfP m))):=by
 refine zO Tryz.func18 Y (by kernel_rfl) Y ?_
 refine zn (zf (ql Y (zQ Y)) (zf (zg Y Y) (zo (zt (zn (zf (zi Y Y yE) (zf (zl Y Y Y ty3) (zf (zi Y Y y9) ?_))))))))
 refine zf (zl Y Y Y ty3) (zf (zB (av:=[_, _]) Y ⟨Y, Y, trivial⟩ (f91 _ _)) (zf (qJ Y Y) (zf (zh Y Y) (zC Y (fun hg=>zi Y Y yO) (zC Y (fun hg=>zl Y (if_pos hg) Y ty3) (zC Y (fun hg=>zB (av:=[_, _, _]) Y ⟨((if_pos hg)), Y, Y, trivial⟩ (f78 _ _ _)) (zC Y (fun hg=>qJ Y (if_pos hg)) (zf (jf Y Y Y Y) (zf (zh Y Y) (zC Y (fun hg=>zi Y Y vZ) (zC Y (fun hg=>zl Y (if_pos hg) Y kS) ?_)))))))))))
 refine zC Y (fun hg=>qA Y Y (if_pos hg) Tryz.underlying67) (zC Y (fun hg=>jB Y (if_pos hg) Y) (zf (jf Y Y Y Y) (zo (zA Y (fun h0=>?_) (fun h0=>?_)))))
 ·have hf:zbH m = false:=by cases hc:zbH m <;> simp_all [zbH, inB] <;> omega
  refine zn (zf (zg Y Y) (zo (zN (zP ?_))))
  exact ⟨.inr Y, AVle.of (by simp [zfP, hf])⟩
 ·have hh:zbH m = true:=by simp [zbH, inB] at h0 ⊢; omega
  have hw:1 <= m.wide /\ m.wide <= 6:=by simp_all [zbH, inB]
  have hr:1 <= m.rows /\ m.rows <= 5:=by simp_all [zbH, inB]
  refine zH (zk (zt (zn (zf (zg Y Y) (zo (zF ?_))))))
  refine qm (ι:={ k:Nat // k <= m.st.length /\ (m.st.take k).all (ziM m) = true }) (fun k=>⟨Tryz.f18.ntmps, frL [(1, .pub (.ptr (eMp m))), (3, I (k.1:Int))], []⟩) (fun k=>m.st.length - k.1) (⟨0, by simp⟩) ?_ ?_
  ·exact zy _ ⟨Y, Y, trivial⟩ (Y)
  ·rintro ⟨k, hk⟩
   dsimp only
   refine zt (zn (zf (zh Y Y) (zf (zi Y Y vZ) (zf (zl Y Y Y kS) (zf (qA Y Y Y Tryz.underlying67) (zf (qx Y Y Y) (zo (zA Y (fun h1=>?_) (fun h1=>?_)))))))))
   ·have hlt:k < m.st.length:=by simpa using h1
    have hl:m.st.length <= 12:=by simp [zbH] at hh; omega
    refine zH (zk (zt (zF (zn (zf (zi Y Y vZ) (zf (zl Y Y Y kS) (zf (zh Y Y) (zf (zD Y Y Y zaC (by omega) (zcR hlt) zbj) (zf (zK Y Y xC (by exact zLb Y)) ?_)))))))))
    refine qP  Y Y Y Y Y Y Y zgF xC Y (by rfl) (zQ Y) Y ?_
    refine zo (zn (zf (zK Y Y kN (by exact zLb Y)) (zf (zi Y Y xk) (zf (zl Y Y Y ty3) (zf (zB (av:=[_, _]) Y ⟨Y, Y, trivial⟩ (f41 m _ hw hr)) (zf (qJ Y Y) (zf (zh Y Y) (zC Y (fun hg=>zi Y Y jL) (zC Y (fun hg=>zi Y (if_pos hg) vF) ?_)))))))))
    refine zC Y (fun hg=>zl Y (if_pos hg) Y ty3) (zC Y (fun hg=>zB (av:=[_]) Y ⟨((if_pos hg)), trivial⟩ (f79 _)) (zC Y (fun hg=>qJ Y (if_pos hg)) (zf (jf Y Y Y Y) (zf (zh Y Y) (zC Y (fun hg=>zi Y Y jL) (zC Y (fun hg=>zi Y (if_pos hg) vV) (zC Y (fun hg=>zl Y (if_pos hg) Y ty3) (zC Y (fun hg=>zB (av:=[_]) Y ⟨((if_pos hg)), trivial⟩ (f79 _)) (zC Y (fun hg=>qJ Y (if_pos hg)) (zf (jf Y Y Y Y) (zf (zh Y Y) ?_)))))))))))
    refine zC Y (fun hg=>zi Y Y jL) (zC Y (fun hg=>zi Y (if_pos hg) vF) (zC Y (fun hg=>zl Y (if_pos hg) Y ty3) (zC Y (fun hg=>zi Y Y jL) (zC Y (fun hg=>zi Y (if_pos hg) vV) (zC Y (fun hg=>zl Y (if_pos hg) Y ty3) (zC Y (fun hg=>jB Y (if_pos hg) (if_pos hg)) (zf (jf Y Y Y Y) (zo (zA Y (fun h2=>?_) (fun h2=>?_))))))))))
    ·have hs:ziM m m.st[k] = false:=by
      rw [Bool.eq_false_iff]; intro hc; simp [ziM, inB] at hc h2; omega
     refine zn (zf (zg Y Y) (zo (zN (zZ (zP (zP (zZ (zP ?_))))))))
     exact ⟨.inr Y, AVle.of (by simp [zfP, xB hlt hs])⟩
    ·have hs:ziM m m.st[k] = true:=by simp [ziM, inB] at h2 ⊢; omega
     refine zH (zJ (zk (zx (zf (zh Y Y) (zf (zW Y Y Y ⟨by omega, by omega⟩) (zf (zg Y Y) (zM ?_)))))))
     exact ⟨⟨k + 1, by omega, yF hk.2 hlt hs⟩, by dsimp only; omega, zy _ ⟨Y, Y, trivial⟩ (Y)⟩
   ·have hge:m.st.length <= k:=by simpa using h1
    refine qg (zS (zS (qh (zk (zn (zf (zg Y Y) (zo (zN ?_))))))))
    exact ⟨.inr Y, AVle.of (by rw [List.take_of_length_le hge] at hk; simp [zfP, hh, hk.2])⟩
def loOf (w slope:Int) (p:Int) (l:List Stn):Int:=l.foldl (fun a s=>max a (s.lo - slope * dist w p s.pt)) 0
def hiOf (w slope:Int) (p:Int) (l:List Stn):Int:=l.foldl (fun a s=>min a (s.hi + slope * dist w p s.pt)) 99999
def okM (m:Mp):Prop:=1 <= m.wide /\ m.wide <= 6 /\ 1 <= m.rows /\ m.rows <= 5 /\ 0 <= m.slope /\ m.slope <= 5000 /\ m.st.length <= 12 /\ ∀ s ∈ m.st, 0 <= s.pt /\ s.pt <= m.wide * m.rows - 1 /\ 0 <= s.lo /\ s.lo <= s.hi /\ s.hi <= 99999
theorem okM_iff (m:Mp):zfP m = true ↔ okM m:=by
 unfold zfP zbH okM ziM inB
 simp only[zLa, decide_eq_true_eq, List.all_eq_true]
 constructor
 ·rintro ⟨⟨⟨⟨h1, h2⟩, h3⟩, h4⟩, h5⟩
  refine ⟨h1.1, h1.2, h2.1, h2.2, h3.1, h3.2, h4, fun s hs=>?_⟩
  have:=h5 s hs
  omega
 ·rintro ⟨h1, h2, h3, h4, h5, h6, h7, h8⟩
  refine ⟨⟨⟨⟨⟨h1, h2⟩, h3, h4⟩, h5, h6⟩, h7⟩, fun s hs=>?_⟩
  have:=h8 s hs
  omega
theorem area {a b:Int} (h1:1 <= a) (h2:a <= 6) (h3:1 <= b) (h4:b <= 5):1 <= a * b /\ a * b <= 30:=
 ⟨by have:=Int.mul_le_mul h1 h3 (by omega) (by omega); omega, by have:=Int.mul_le_mul h2 h4 (by omega) (by omega); omega⟩
theorem zrk {s d:Int} (h1:0 <= s) (h2:s <= 5000) (h3:0 <= d) (h4:d <= 100):0 <= s * d /\ s * d <= 500000:=
 ⟨Int.mul_nonneg h1 h3, by have:=Int.mul_le_mul h2 h4 h3 (by omega); omega⟩
theorem zmj {w sl p:Int} {l:List Stn} {k:Nat} (h:k < l.length):loOf w sl p (l.take (k + 1)) = max (loOf w sl p (l.take k)) (l[k].lo - sl * dist w p l[k].pt):=by
 unfold loOf; rw [List.take_succ_eq_append_getElem h, List.foldl_append]; rfl
theorem zm6 {w sl p:Int} {l:List Stn} {k:Nat} (h:k < l.length):hiOf w sl p (l.take (k + 1)) = min (hiOf w sl p (l.take k)) (l[k].hi + sl * dist w p l[k].pt):=by
 unfold hiOf; rw [List.take_succ_eq_append_getElem h, List.foldl_append]; rfl
theorem zaK {α β:Type} (f:β -> α -> β) (I:β -> Prop):∀ (l:List α) (b:β), I b -> (∀ b a, a ∈ l -> I b -> I (f b a)) -> I (l.foldl f b)
 | [], b, h, _=>h
 | a :: l, b, h, hs=>zaK f I l _ (hs b a (by simp) h) (fun b x hx hb=>hs b x (by simp [hx]) hb)
def maxL (l:List Int):Int:=l.foldl max (l.headD 0)
def minL (l:List Int):Int:=l.foldl min (l.headD 0)
def vS (w r:Int):List AV:=[.v (.int .i64 w), .v (.int .i64 r)]
def qB (m:Mp):List AV:=eMp m ++ vS m.wide m.rows
theorem zjH {l:List Int} (h:0 < l.length):l.headD 0 = l[0]:=by
 cases l with
 | nil=>simp at h
 | cons x xs=>rfl
theorem zjQ (a b:Int):maxL [a, b] = max a b:=by simp [maxL]
theorem zph (a b:Int):minL [a, b] = min a b:=by simp [minL]
theorem zhq {f:Int -> Int -> Int} {a:Int} {l:List Int} {k:Nat} (h:k < l.length):(l.take (k + 1)).foldl f a = f ((l.take k).foldl f a) l[k]:=by
 rw [List.take_succ_eq_append_getElem h, List.foldl_append]; rfl
theorem f136 (l:List Int) (h:0 < l.length) (hl:l.length <= 1000):ACall Tryz.prog G 182 [eInts l] (.v (.int .i64 (maxL l))):=by
 have hh:=zjH h
 refine zO Tryz.func182 Y (by kernel_rfl) Y ?_
 refine zn (zf (zg Y Y) (zo (zn (zf (zI Y Y) (zf (zD Y Y Y jV (by omega) (jM h) qH) (zf (zl Y Y Y ty3) (zf (zg Y Y) (zM ?_))))))))
 refine zk (zt (zn (zf (zI Y Y) (zf (qA Y Y Y Tryz.underlying24) (zf (zh Y Y) (zo (zF ?_)))))))
 refine qm (ι:={ k:Nat // k <= l.length }) (fun k=>⟨Tryz.f182.ntmps, frL [(3, I ((l.take k.1).foldl max l[0])), (9, .pub (eInts l)), (10, I (l.length:Int)), (11, I (k.1:Int))], []⟩) (fun k=>l.length - k.1) (⟨0, by simp⟩) ?_ ?_
 ·exact zy _ ⟨Y, Y, (congrArg (fun x:Nat=>I (x:Int)) (List.length_map _)), Y, trivial⟩ (Y)
 ·rintro ⟨k, hk⟩
  dsimp only
  refine zn (zf (qx Y Y Y) (zo (zt (zA Y (fun h0=>?_) (fun h0=>?_)))))
  ·have hlt:k < l.length:=by simpa using h0
   refine zH (zk (zt (zF (zn (zf (zD Y Y Y jV (by omega) (jM hlt) qH) (zf (zl Y Y Y ty3) (zf (zg Y Y) (zo (zx ?_)))))))))
   refine zf (zh Y Y) (zf (zh Y Y) (zf (zrp Y Y Y) (zf (zg Y Y) (zM (zJ (zk (zx (zf (zW Y Y Y ⟨by omega, by omega⟩) (zf (zh Y Y) (zM ?_))))))))))
   exact ⟨⟨k + 1, by omega⟩, by dsimp only; omega, zy _ ⟨(congrArg I (zhq hlt).symm), Y, Y, Y, trivial⟩ (Y)⟩
  ·have hge:l.length <= k:=by simpa using h0
   refine qg (zS (zS (qh (zk (zn (zf (zh Y Y) (zf (zg Y Y) (zo (zN ?_)))))))))
   exact ⟨.inr Y, AVle.of (by rw [List.take_of_length_le hge]; unfold maxL; rw [hh])⟩
theorem f135 (l:List Int) (h:0 < l.length) (hl:l.length <= 1000):ACall Tryz.prog G 239 [eInts l] (.v (.int .i64 (minL l))):=by
 have hh:=zjH h
 refine zO Tryz.func239 Y (by kernel_rfl) Y ?_
 refine zn (zf (zg Y Y) (zo (zn (zf (zI Y Y) (zf (zD Y Y Y jV (by omega) (jM h) qH) (zf (zl Y Y Y ty3) (zf (zg Y Y) (zM ?_))))))))
 refine zk (zt (zn (zf (zI Y Y) (zf (qA Y Y Y Tryz.underlying24) (zf (zh Y Y) (zo (zF ?_)))))))
 refine qm (ι:={ k:Nat // k <= l.length }) (fun k=>⟨Tryz.f239.ntmps, frL [(3, I ((l.take k.1).foldl min l[0])), (9, .pub (eInts l)), (10, I (l.length:Int)), (11, I (k.1:Int))], []⟩) (fun k=>l.length - k.1) (⟨0, by simp⟩) ?_ ?_
 ·exact zy _ ⟨Y, Y, (congrArg (fun x:Nat=>I (x:Int)) (List.length_map _)), Y, trivial⟩ (Y)
 ·rintro ⟨k, hk⟩
  dsimp only
  refine zn (zf (qx Y Y Y) (zo (zt (zA Y (fun h0=>?_) (fun h0=>?_)))))
  ·have hlt:k < l.length:=by simpa using h0
   refine zH (zk (zt (zF (zn (zf (zD Y Y Y jV (by omega) (jM hlt) qH) (zf (zl Y Y Y ty3) (zf (zg Y Y) (zo (zx ?_)))))))))
   refine zf (zh Y Y) (zf (zh Y Y) (zf (zsQ Y Y Y) (zf (zg Y Y) (zM (zJ (zk (zx (zf (zW Y Y Y ⟨by omega, by omega⟩) (zf (zh Y Y) (zM ?_))))))))))
   exact ⟨⟨k + 1, by omega⟩, by dsimp only; omega, zy _ ⟨(congrArg I (zhq hlt).symm), Y, Y, Y, trivial⟩ (Y)⟩
  ·have hge:l.length <= k:=by simpa using h0
   refine qg (zS (zS (qh (zk (zn (zf (zh Y Y) (zf (zg Y Y) (zo (zN ?_)))))))))
   exact ⟨.inr Y, AVle.of (by rw [List.take_of_length_le hge]; unfold minL; rw [hh])⟩
theorem f105 (a b:Int) (ha:-1000000000000 <= a /\ a <= 1000000000000) (hb:-1000000000000 <= b /\ b <= 1000000000000):ACall Tryz.prog G 84 [.v (.int .i64 a), .v (.int .i64 b)] (.v (.int .i64 (vC a b))):=by
 refine zO Tryz.func84 Y (by kernel_rfl) Y ?_
 refine zn (zf (zg Y Y) (zo (zn (zf (zh Y Y) (zf (zh Y Y) (zf (vN Y Y Y ⟨by omega, by omega⟩) (zf (zh Y Y) (zf (zh Y Y) ?_))))))))
 refine zf (vN Y Y Y ⟨by omega, by omega⟩) ?_
 refine zf (qy (size:=1) (rows:=[[_], [_]]) Y Tryz.underlying24 ti3 Y (by decide) Y (by decide) ⟨_, _, Y, (qU Y), ⟨_, _, Y, (qU Y), Y⟩⟩ (by rfl) (by simp [ofV]) Y (by simp)) ?_
 refine zf (zB (av:=[_]) Y ⟨Y, trivial⟩ (f136 [_, _] (by simp) (by simp))) ?_
 refine zf (zg Y Y) (zo (zN ?_))
 exact ⟨.inr Y, AVle.of (by rw [zjQ]; rfl)⟩
theorem f120 (w r p:Int) (hw:1 <= w) (hp:0 <= p /\ p <= 100000):ACall Tryz.prog G 180 [.agg (vS w r), .v (.int .i64 p)] (.v (.int .i64 (p / w))):=by
 refine zO Tryz.func180 Y (by kernel_rfl) Y ?_
 refine zn (zf (ql Y (zQ Y)) (zf (zg Y Y) (zo (zn (zf (zh Y Y) (zf (zi Y Y zdQ) (zf (zl Y Y Y ty3) (zf (x9 Y Y Y ⟨(by omega), by omega, by omega⟩) ?_))))))))
 refine zf (zg Y Y) (zo (zN ?_))
 exact ⟨.inr Y, AVle.refl _⟩
theorem f121 (w r p:Int) (hw:1 <= w) (hp:0 <= p /\ p <= 100000):ACall Tryz.prog G 181 [.agg (vS w r), .v (.int .i64 p)] (.v (.int .i64 (p % w))):=by
 refine zO Tryz.func181 Y (by kernel_rfl) Y ?_
 refine zn (zf (ql Y (zQ Y)) (zf (zg Y Y) (zo (zn (zf (zh Y Y) (zf (zi Y Y zdQ) (zf (zl Y Y Y ty3) (zf (ku Y Y Y ⟨by omega, by omega⟩) ?_))))))))
 refine zf (zg Y Y) (zo (zN ?_))
 exact ⟨.inr Y, AVle.refl _⟩
theorem f119 (w r a b:Int) (hw:1 <= w /\ w <= 1000) (ha:0 <= a /\ a <= 100000) (hb:0 <= b /\ b <= 100000):ACall Tryz.prog G 179 [.agg (vS w r), .v (.int .i64 a), .v (.int .i64 b)] (.v (.int .i64 (dist w a b))):=by
 have h1:=dm hw.1 ha
 have h2:=dm hw.1 hb
 have h3:=zaf (N:=100000) ⟨h1.1, h1.2.1⟩ ⟨h2.1, h2.2.1⟩
 have h4:=zaf (N:=w) ⟨h1.2.2.1, by omega⟩ ⟨h2.2.2.1, by omega⟩
 refine zO Tryz.func179 Y (by kernel_rfl) Y ?_
 refine zn (zf (ql Y (zQ Y)) (zf (zg Y Y) (zo (zt ?_))))
 refine qp mixed (by kernel_rfl) Y ?_
 refine zu Y (zK Y Y yw (by exact zLb Y)) (zu Y (zh Y Y) (zu Y (zB (av:=[_, _]) Y ⟨Y, Y, trivial⟩ (f120 w r _ (by omega) (by omega))) (zu Y (zK Y Y yw (by exact zLb Y)) (zu Y (zh Y Y) (zu Y (zB (av:=[_, _]) Y ⟨Y, Y, trivial⟩ (f120 w r _ (by omega) (by omega))) (zu Y (zB (av:=[_, _]) Y ⟨Y, Y, trivial⟩ (f105 _ _ (by omega) (by omega))) (zu Y (zK Y Y yw (by exact zLb Y)) (zu Y (zh Y Y) (zu Y (zB (av:=[_, _]) Y ⟨Y, Y, trivial⟩ (f121 w r _ (by omega) (by omega))) (zu Y (zK Y Y yw (by exact zLb Y)) (zu Y (zh Y Y) ?_)))))))))))
 refine zu Y (zB (av:=[_, _]) Y ⟨Y, Y, trivial⟩ (f121 w r _ (by omega) (by omega))) (zu Y (zB (av:=[_, _]) Y ⟨Y, Y, trivial⟩ (f105 _ _ (by omega) (by omega))) (zu Y (zW Y Y Y ⟨by omega, by omega⟩) (zu Y (zg Y Y) (qF (zk (zN ?_))))))
 exact ⟨.inr Y, AVle.refl _⟩
theorem zqE {w sl p:Int} {l:List Stn} (h:∀ s ∈ l, s.lo <= 99999 /\ 0 <= sl * dist w p s.pt):0 <= loOf w sl p l /\ loOf w sl p l <= 99999:=
 zaK _ (fun a=>0 <= a /\ a <= 99999) l 0 (by omega) (fun b a ha hb=>by have:=h a ha; omega)
theorem zq3 {w sl p:Int} {l:List Stn} (h:∀ s ∈ l, 0 <= s.hi /\ 0 <= sl * dist w p s.pt):0 <= hiOf w sl p l /\ hiOf w sl p l <= 99999:=
 zaK _ (fun a=>0 <= a /\ a <= 99999) l 99999 (by omega) (fun b a ha hb=>by have:=h a ha; omega)
theorem okM.sd {m:Mp} (hm:okM m) {p:Int} (hp:0 <= p /\ p <= 30):∀ s ∈ m.st, 0 <= dist m.wide p s.pt /\ dist m.wide p s.pt <= 36 /\ 0 <= m.slope * dist m.wide p s.pt /\ m.slope * dist m.wide p s.pt <= 500000:=fun s hs=>by
 obtain ⟨m1, m2, m3, m4, m5, m6, m7, m8⟩:=hm
 have h:=m8 s hs
 have har:=area m1 m2 m3 m4
 have hd:=zh4 (N:=30) (w:=m.wide) (a:=p) (b:=s.pt) m1 (by omega) (by omega)
 have hsd:=zrk m5 m6 hd.1 (by omega:dist m.wide p s.pt <= 100)
 omega
theorem okM.lo {m:Mp} (hm:okM m) {p:Int} (hp:0 <= p /\ p <= 30) (k:Nat):0 <= loOf m.wide m.slope p (m.st.take k) /\ loOf m.wide m.slope p (m.st.take k) <= 99999:=
 zqE fun s hs=>by
  have h1:=hm.sd hp s (List.mem_of_mem_take hs)
  have h2:=hm.2.2.2.2.2.2.2 s (List.mem_of_mem_take hs)
  omega
theorem okM.hi {m:Mp} (hm:okM m) {p:Int} (hp:0 <= p /\ p <= 30) (k:Nat):0 <= hiOf m.wide m.slope p (m.st.take k) /\ hiOf m.wide m.slope p (m.st.take k) <= 99999:=
 zq3 fun s hs=>by
  have h1:=hm.sd hp s (List.mem_of_mem_take hs)
  have h2:=hm.2.2.2.2.2.2.2 s (List.mem_of_mem_take hs)
  omega
theorem f114 (m:Mp) (p:Int) (hm:okM m) (hp:0 <= p /\ p <= 30):ACall Tryz.prog G 184 [.agg (qB m), .v (.int .i64 p)] (.v (.int .i64 (loOf m.wide m.slope p m.st))):=by
 refine zO Tryz.func184 Y (by kernel_rfl) Y ?_
 refine zn (zf (ql Y (zQ Y)) (zf (zg Y Y) (zo (zn (zf (zg Y Y) (zo (zt ?_)))))))
 refine zn (zf (zi Y Y jQ) (zf (zi Y Y vZ) (zf (zl Y Y Y kS) (zf (qA Y Y Y Tryz.underlying67) (zf (zh Y Y) (zo (zF ?_)))))))
 refine qm (ι:={ k:Nat // k <= m.st.length }) (fun k=>⟨Tryz.f184.ntmps, frL [(1, I p), (2, .pub (.ptr (qB m))), (5, I (loOf m.wide m.slope p (m.st.take k.1))), (10, .pub (.sl (m.st.map eStn))), (11, I (m.st.length:Int)), (12, I (k.1:Int))], []⟩) (fun k=>m.st.length - k.1) (⟨0, by simp⟩) ?_ ?_
 ·exact zy _ ⟨Y, Y, Y, Y, (congrArg (fun x:Nat=>I (x:Int)) (List.length_map _)), Y, trivial⟩ (Y)
 ·rintro ⟨k, hk⟩
  dsimp only
  refine zn (zf (qx Y Y Y) (zo (zt (zA Y (fun h0=>?_) (fun h0=>?_)))))
  ·have hlt:k < m.st.length:=by simpa using h0
   have hs:=hm.sd hp _ (List.getElem_mem hlt)
   have hb:=hm.lo hp k
   have ho:=hm
   obtain ⟨m1, m2, m3, m4, m5, m6, m7, m8⟩:=ho
   have ht:=m8 _ (List.getElem_mem hlt)
   have har:=area m1 m2 m3 m4
   refine zH (zk (zt (zF (zn (zf (zD Y Y Y zaC (by omega) (zcR hlt) zbj) (zf (zK Y Y xC (by exact zLb Y)) ?_))))))
   refine qP  Y Y Y Y Y Y Y zgF xC Y (by rfl) (zQ Y) Y ?_
   refine zo ?_
   refine qp mixed (by kernel_rfl) Y ?_
   refine zu Y (zh Y Y) (zu Y (zi Y Y jL) (zu Y (zi Y Y vF) (zu Y (zl Y Y Y ty3) (zu Y (zi Y Y jQ) (zu Y (zi Y Y yO) (zu Y (zl Y Y Y ty3) (zu Y (zi Y Y yI) (zu Y (zK Y Y yw (by exact zLb Y)) (zu Y (zh Y Y) (zu Y (zi Y Y xk) (zu Y (zl Y Y Y ty3) ?_)))))))))))
   refine zu Y (zB (av:=[_, _, _]) Y ⟨Y, Y, Y, trivial⟩ (f119 m.wide m.rows _ _ (by omega) (by omega) (by omega))) (zu Y (ya Y Y Y ⟨by omega, by omega⟩) (zu Y (vN Y Y Y ⟨by omega, by omega⟩) ?_))
   refine zu Y (qy (size:=1) (rows:=[[_], [_]]) Y Tryz.underlying24 ti3 Y (by decide) Y (by decide) ⟨_, _, Y, (qU Y), ⟨_, _, Y, (qU Y), Y⟩⟩ (by rfl) (by simp [ofV]) Y (by simp)) ?_
   refine zu Y (zB (av:=[_]) Y ⟨Y, trivial⟩ (f136 [_, _] (by simp) (by simp))) ?_
   refine zu Y (zg Y Y) (qF (zJ (zk (zx (zf (zW Y Y Y ⟨by omega, by omega⟩) (zf (zh Y Y) (zM ?_)))))))
   exact ⟨⟨k + 1, by omega⟩, by dsimp only; omega, zy _ ⟨Y, Y, (congrArg I ((zjQ _ _).trans (zmj hlt).symm)), Y, Y, Y, trivial⟩ (Y)⟩
  ·have hge:m.st.length <= k:=by simpa using h0
   refine qg (zS (zS (qh (zk (zn (zf (zh Y Y) (zf (zg Y Y) (zo (zN ?_)))))))))
   exact ⟨.inr Y, AVle.of (by rw [List.take_of_length_le hge])⟩
theorem f115 (m:Mp) (p:Int) (hm:okM m) (hp:0 <= p /\ p <= 30):ACall Tryz.prog G 185 [.agg (qB m), .v (.int .i64 p)] (.v (.int .i64 (hiOf m.wide m.slope p m.st))):=by
 refine zO Tryz.func185 Y (by kernel_rfl) Y ?_
 refine zn (zf (ql Y (zQ Y)) (zf (zg Y Y) (zo (zn (zf (zg Y Y) (zo (zt ?_)))))))
 refine zn (zf (zi Y Y jQ) (zf (zi Y Y vZ) (zf (zl Y Y Y kS) (zf (qA Y Y Y Tryz.underlying67) (zf (zh Y Y) (zo (zF ?_)))))))
 refine qm (ι:={ k:Nat // k <= m.st.length }) (fun k=>⟨Tryz.f185.ntmps, frL [(1, I p), (2, .pub (.ptr (qB m))), (5, I (hiOf m.wide m.slope p (m.st.take k.1))), (10, .pub (.sl (m.st.map eStn))), (11, I (m.st.length:Int)), (12, I (k.1:Int))], []⟩) (fun k=>m.st.length - k.1) (⟨0, by simp⟩) ?_ ?_
 ·exact zy _ ⟨Y, Y, Y, Y, (congrArg (fun x:Nat=>I (x:Int)) (List.length_map _)), Y, trivial⟩ (Y)
 ·rintro ⟨k, hk⟩
  dsimp only
  refine zn (zf (qx Y Y Y) (zo (zt (zA Y (fun h0=>?_) (fun h0=>?_)))))
  ·have hlt:k < m.st.length:=by simpa using h0
   have hs:=hm.sd hp _ (List.getElem_mem hlt)
   have hb:=hm.hi hp k
   have ho:=hm
   obtain ⟨m1, m2, m3, m4, m5, m6, m7, m8⟩:=ho
   have ht:=m8 _ (List.getElem_mem hlt)
   have har:=area m1 m2 m3 m4
   refine zH (zk (zt (zF (zn (zf (zD Y Y Y zaC (by omega) (zcR hlt) zbj) (zf (zK Y Y xC (by exact zLb Y)) ?_))))))
   refine qP  Y Y Y Y Y Y Y zgF xC Y (by rfl) (zQ Y) Y ?_
   refine zo ?_
   refine qp mixed (by kernel_rfl) Y ?_
   refine zu Y (zh Y Y) (zu Y (zi Y Y jL) (zu Y (zi Y Y vV) (zu Y (zl Y Y Y ty3) (zu Y (zi Y Y jQ) (zu Y (zi Y Y yO) (zu Y (zl Y Y Y ty3) (zu Y (zi Y Y yI) (zu Y (zK Y Y yw (by exact zLb Y)) (zu Y (zh Y Y) (zu Y (zi Y Y xk) (zu Y (zl Y Y Y ty3) ?_)))))))))))
   refine zu Y (zB (av:=[_, _, _]) Y ⟨Y, Y, Y, trivial⟩ (f119 m.wide m.rows _ _ (by omega) (by omega) (by omega))) (zu Y (ya Y Y Y ⟨by omega, by omega⟩) (zu Y (zW Y Y Y ⟨by omega, by omega⟩) ?_))
   refine zu Y (qy (size:=1) (rows:=[[_], [_]]) Y Tryz.underlying24 ti3 Y (by decide) Y (by decide) ⟨_, _, Y, (qU Y), ⟨_, _, Y, (qU Y), Y⟩⟩ (by rfl) (by simp [ofV]) Y (by simp)) ?_
   refine zu Y (zB (av:=[_]) Y ⟨Y, trivial⟩ (f135 [_, _] (by simp) (by simp))) ?_
   refine zu Y (zg Y Y) (qF (zJ (zk (zx (zf (zW Y Y Y ⟨by omega, by omega⟩) (zf (zh Y Y) (zM ?_)))))))
   exact ⟨⟨k + 1, by omega⟩, by dsimp only; omega, zy _ ⟨Y, Y, (congrArg I ((zph _ _).trans (zm6 hlt).symm)), Y, Y, Y, trivial⟩ (Y)⟩
  ·have hge:m.st.length <= k:=by simpa using h0
   refine qg (zS (zS (qh (zk (zn (zf (zh Y Y) (zf (zg Y Y) (zo (zN ?_)))))))))
   exact ⟨.inr Y, AVle.of (by rw [List.take_of_length_le hge])⟩
end Ct
end Go.Av
end
