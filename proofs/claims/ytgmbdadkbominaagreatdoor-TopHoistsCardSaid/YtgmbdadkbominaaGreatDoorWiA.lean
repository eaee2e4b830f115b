import Derived.Test.YtgmbdadkbominaaGreatDoorPlatF
import Derived.Test.YtgmbdadkbominaaGreatDoorPlatE
import Derived.Lib.Hide
import Derived.Test.YtgmbdadkbominaaGreatDoorProg
set_option linter.unusedVariables false
set_option linter.unusedSimpArgs false
section
namespace Go.Av
namespace Wr
structure Cod where
 fields:List (Int × Int)
 turns:List Int
 most:Int
def eSpn (p:Int × Int):List AV:=[.v (.int .i64 p.1), .v (.int .i64 p.2)]
def zDd (l:List Int):AV:=.sl (l.map fun n=>[.v (.int .i64 n)])
def eCod (c:Cod):List AV:=[.sl (c.fields.map eSpn), zDd c.turns, .v (.int .i64 c.most)]
end Wr
end Go.Av
end
section
namespace Go.Av
namespace Wr
open Go.Proofs
set_option maxRecDepth 100000
set_option maxHeartbeats 1000000
variable {G:Glob}
theorem zaC:kw Tryz.prog 23 2 = true:=by kernel_rfl
theorem zgU:tyIs Tryz.prog 46 true 2 = true:=by kernel_rfl
theorem yR:kw Tryz.prog 24 1 = true:=by kernel_rfl
theorem ty3:tyIs Tryz.prog 3 false 1 = true:=by kernel_rfl
theorem zax:fldIs Tryz.prog 46 0 0 = true:=by kernel_rfl
theorem zaA:fldIs Tryz.prog 46 1 1 = true:=by kernel_rfl
theorem yh:fldIs Tryz.prog 26 0 0 = true:=by kernel_rfl
theorem kS:tyIs Tryz.prog 23 false 1 = true:=by kernel_rfl
theorem zbi:fldIs Tryz.prog 26 1 1 = true:=by kernel_rfl
theorem zcX:tyIs Tryz.prog 24 false 1 = true:=by kernel_rfl
theorem wQ:fldIs Tryz.prog 26 2 2 = true:=by kernel_rfl
theorem zrm:(Tryz.prog.info? 46).bind (·.zero) = some (.agg #[.int .i64 0, .int .i64 0]):=by kernel_rfl
def inB (x lo hi:Int):Bool:=decide (lo <= x) && decide (x <= hi)
theorem zf8 {l:List (Int × Int)} {k:Nat} (h:k < l.length):(l.map eSpn)[k]? = some (eSpn l[k]):=by simp [h]
theorem zdm {l:List (Int × Int)}:∀ q ∈ l.map eSpn, q.length = 2:=fun q hq=>by obtain ⟨p, _, rfl⟩:=List.mem_map.1 hq; rfl
theorem jM {l:List Int} {k:Nat} (h:k < l.length):(l.map fun n=>[AV.v (.int .i64 n)])[k]? = some [.v (.int .i64 l[k])]:=by simp [h]
theorem qH {l:List Int}:∀ q ∈ l.map (fun n=>[AV.v (.int .i64 n)]), q.length = 1:=by simp
def ixF {α:Type} (h:α -> Bool) (l:List α):Int:=match l.findIdx? h with
 | some k=>(k:Int)
 | none=>-1
theorem zk4 {α:Type} {h:α -> Bool} {l:List α} {k:Nat} (hk:k < l.length) (h0:(l.take k).any h = false) (h1:h l[k] = true):ixF h l = (k:Int):=by
 have:l.findIdx? h = some k:=by
  rw [List.findIdx?_eq_some_iff_getElem]
  refine ⟨hk, h1, fun j hj=>?_⟩
  rw [List.any_eq_false] at h0
  have:=h0 l[j] (by rw [List.mem_take_iff_getElem]; exact ⟨j, by omega, rfl⟩)
  simpa using this
 simp [ixF, this]
theorem zh8 {α:Type} {h:α -> Bool} {l:List α} (h0:l.any h = false):ixF h l = -1:=by
 have:l.findIdx? h = none:=by
  rw [List.findIdx?_eq_none_iff]
  intro x hx
  rw [List.any_eq_false] at h0
  simpa using h0 x hx
 simp [ixF, this]
theorem zhV {α:Type} (h:α -> Bool) (l:List α):decide (0 <= ixF h l) = l.any h:=by
 cases ha:l.any h with
 | false=>rw [zh8 ha]; rfl
 | true=>
  cases hf:l.findIdx? h with
  | some k=>simp only[ixF, hf]; simp
  | none=>
   rw [List.findIdx?_eq_none_iff] at hf
   rw [List.any_eq_true] at ha
   obtain ⟨x, hx, hh⟩:=ha
   rw [hf x hx] at hh; cases hh
theorem zaI {α:Type} {l:List α} {h:α -> Bool} {k:Nat} (h0:(l.take k).any h = false) (hk:k < l.length) (h1:h l[k] = false):(l.take (k + 1)).any h = false:=by
 rw [List.take_succ_eq_append_getElem hk, List.any_append, h0]; simp [h1]
def zgl (p:Int × Int):Bool:=decide (p.1 < 0) || decide (p.2 < p.1) || decide (99999 < p.2)
def zhN (n:Int):Bool:=!inB n 0 1023
def codB (c:Cod):Bool:=inB (c.fields.length:Int) 1 3 && ((c.turns.length:Int) == 10) && inB c.most 0 2 && !(c.fields.any zgl) && !(c.turns.any zhN)
theorem f107 (x lo hi:Int):ACall Tryz.prog G 211 [.v (.int .i64 x), .v (.int .i64 lo), .v (.int .i64 hi)] (.v (.bool (inB x lo hi))):=by
 refine zO Tryz.func211 Y (by kernel_rfl) Y ?_
 refine zn (zf (zg Y Y) (zo (zn (zf (zh Y Y) (zf (zh Y Y) (zf (kG Y Y Y) (zf (zh Y Y) (zC Y (fun hg=>zh Y Y) ?_))))))))
 refine zC Y (fun hg=>zh Y Y) (zC Y (fun hg=>zbt Y (if_pos hg) (if_pos hg)) (zf (jg Y Y Y Y) (zf (zg Y Y) (zo (zN ?_)))))
 exact ⟨.inr Y, AVle.refl _⟩
theorem f93 (x lo hi:Int):ACall Tryz.prog G 67 [.v (.int .i64 x), .v (.int .i64 lo), .v (.int .i64 hi)] (.v (.bool (inB x lo hi))):=by
 refine zO Tryz.func67 Y (by kernel_rfl) Y ?_
 refine zn (zf (zg Y Y) (zo (zn (zf (zh Y Y) (zf (zh Y Y) (zf (kG Y Y Y) (zf (zh Y Y) (zC Y (fun hg=>zh Y Y) ?_))))))))
 refine zC Y (fun hg=>zh Y Y) (zC Y (fun hg=>zbt Y (if_pos hg) (if_pos hg)) (zf (jg Y Y Y Y) (zf (zg Y Y) (zo (zN ?_)))))
 exact ⟨.inr Y, AVle.refl _⟩
theorem f171 (l:List (Int × Int)) (h:(Int × Int) -> Bool) (f:FuncId) (fs cs:List AV) (hl:l.length <= 1000) (hf:∀ n ∈ l, ACall Tryz.prog G f (fs ++ [.agg (eSpn n)] ++ cs) (.v (.bool (h n)))):ACall Tryz.prog G 312 [.sl (l.map eSpn), .fn f fs cs] (.v (.int .i64 (ixF h l))):=by
 have hF:=Lib.hid hf
 clear hf
 refine zO Tryz.func312 Y (by kernel_rfl) Y ?_
 refine zn (zf (zg Y Y) (zo (zt (zn (zf (zI Y Y) (zf (qA Y Y Y Tryz.underlying23) (zf (zh Y Y) (zM ?_))))))))
 refine zk (zF ?_)
 refine qm (ι:={ k:Nat // k <= l.length /\ (l.take k).any h = false }) (fun k=>⟨Tryz.f312.ntmps, frL [(0, .pub (.sl (l.map eSpn))), (1, .pub (.fn f fs cs)), (7, I (l.length:Int)), (8, I (k.1:Int))], []⟩) (fun k=>l.length - k.1) (⟨0, by simp⟩) ?_ ?_
 ·exact zy _ ⟨Y, Y, (congrArg (fun x:Nat=>I (x:Int)) (List.length_map _)), Y, trivial⟩ (Y)
 ·rintro ⟨k, hk⟩
  dsimp only
  refine zn (zf (qx Y Y Y) (zo (zt (zA Y (fun h0=>?_) (fun h0=>?_)))))
  ·have hlt:k < l.length:=by simpa using h0
   refine zH (zk (zt (zF (zn (zf (zh Y Y) (zf (zg Y Y) (zo (zn ?_))))))))
   refine zf (zI Y Y) (zf (zI Y Y) (zf (zh Y Y) (zf (zD Y Y Y zaC (by omega) (zf8 hlt) zdm) (zf (zK Y Y zgU (by exact zLb Y)) (zf (vH (av:=[_]) Y Y ⟨Y, trivial⟩ (hF.out _ (List.getElem_mem hlt))) (zo (zA Y (fun h1=>?_) (fun h1=>?_))))))))
   ·refine zn (zf (zh Y Y) (zf (zg Y Y) (zo (zN (zZ (zP (zP (zZ (zP ?_)))))))))
    exact ⟨.inr Y, AVle.of (by rw [zk4 hlt hk.2 h1])⟩
   ·refine zH (zJ (zk (zx (zf (zW Y Y Y ⟨by omega, by omega⟩) (zf (zh Y Y) (zM ?_))))))
    exact ⟨⟨k + 1, by omega, zaI hk.2 hlt h1⟩, by dsimp only; omega, zy _ ⟨Y, Y, Y, Y, trivial⟩ (Y)⟩
  ·have hge:l.length <= k:=by simpa using h0
   refine zAj (zS (zS (zAi (zk (zn (zf (zg Y Y) (zo (zN ?_))))))))
   exact ⟨.inr Y, AVle.of (by rw [List.take_of_length_le hge] at hk; rw [zh8 hk.2])⟩
theorem f145 (l:List (Int × Int)) (h:(Int × Int) -> Bool) (f:FuncId) (fs cs:List AV) (hl:l.length <= 1000) (hf:∀ n ∈ l, ACall Tryz.prog G f (fs ++ [.agg (eSpn n)] ++ cs) (.v (.bool (h n)))):ACall Tryz.prog G 259 [.sl (l.map eSpn), .fn f fs cs] (.v (.bool (l.any h))):=by
 refine zO Tryz.func259 Y (by kernel_rfl) Y ?_
 refine zn (zf (zg Y Y) (zo (zn (zf (zI Y Y) (zf (zI Y Y) (zf (zB (av:=[_, _]) Y ⟨Y, Y, trivial⟩ (f171 l h f fs cs hl hf)) (zf (kG Y Y Y) (zf (zg Y Y) ?_))))))))
 refine zo (zN ?_)
 exact ⟨.inr Y, AVle.of (by rw [← zhV h l])⟩
theorem f172 (l:List Int) (h:Int -> Bool) (f:FuncId) (fs cs:List AV) (hl:l.length <= 1000) (hf:∀ n ∈ l, ACall Tryz.prog G f (fs ++ [.v (.int .i64 n)] ++ cs) (.v (.bool (h n)))):ACall Tryz.prog G 313 [zDd l, .fn f fs cs] (.v (.int .i64 (ixF h l))):=by
 have hF:=Lib.hid hf
 clear hf
 refine zO Tryz.func313 Y (by kernel_rfl) Y ?_
 refine zn (zf (zg Y Y) (zo (zt (zn (zf (zI Y Y) (zf (qA Y Y Y Tryz.underlying24) (zf (zh Y Y) (zM ?_))))))))
 refine zk (zF ?_)
 refine qm (ι:={ k:Nat // k <= l.length /\ (l.take k).any h = false }) (fun k=>⟨Tryz.f313.ntmps, frL [(0, .pub (zDd l)), (1, .pub (.fn f fs cs)), (7, I (l.length:Int)), (8, I (k.1:Int))], []⟩) (fun k=>l.length - k.1) (⟨0, by simp⟩) ?_ ?_
 ·exact zy _ ⟨Y, Y, (congrArg (fun x:Nat=>I (x:Int)) (List.length_map _)), Y, trivial⟩ (Y)
 ·rintro ⟨k, hk⟩
  dsimp only
  refine zn (zf (qx Y Y Y) (zo (zt (zA Y (fun h0=>?_) (fun h0=>?_)))))
  ·have hlt:k < l.length:=by simpa using h0
   refine zH (zk (zt (zF (zn (zf (zh Y Y) (zf (zg Y Y) (zo (zn ?_))))))))
   refine zf (zI Y Y) (zf (zI Y Y) (zf (zh Y Y) (zf (zD Y Y Y yR (by omega) (jM hlt) qH) (zf (zl Y Y Y ty3) (zf (vH (av:=[_]) Y Y ⟨Y, trivial⟩ (hF.out _ (List.getElem_mem hlt))) (zo (zA Y (fun h1=>?_) (fun h1=>?_))))))))
   ·refine zn (zf (zh Y Y) (zf (zg Y Y) (zo (zN (zZ (zP (zP (zZ (zP ?_)))))))))
    exact ⟨.inr Y, AVle.of (by rw [zk4 hlt hk.2 h1])⟩
   ·refine zH (zJ (zk (zx (zf (zW Y Y Y ⟨by omega, by omega⟩) (zf (zh Y Y) (zM ?_))))))
    exact ⟨⟨k + 1, by omega, zaI hk.2 hlt h1⟩, by dsimp only; omega, zy _ ⟨Y, Y, Y, Y, trivial⟩ (Y)⟩
  ·have hge:l.length <= k:=by simpa using h0
   refine zAj (zS (zS (zAi (zk (zn (zf (zg Y Y) (zo (zN ?_))))))))
   exact ⟨.inr Y, AVle.of (by rw [List.take_of_length_le hge] at hk; rw [zh8 hk.2])⟩
theorem f147 (l:List Int) (h:Int -> Bool) (f:FuncId) (fs cs:List AV) (hl:l.length <= 1000) (hf:∀ n ∈ l, ACall Tryz.prog G f (fs ++ [.v (.int .i64 n)] ++ cs) (.v (.bool (h n)))):ACall Tryz.prog G 261 [zDd l, .fn f fs cs] (.v (.bool (l.any h))):=by
 refine zO Tryz.func261 Y (by kernel_rfl) Y ?_
 refine zn (zf (zg Y Y) (zo (zn (zf (zI Y Y) (zf (zI Y Y) (zf (zB (av:=[_, _]) Y ⟨Y, Y, trivial⟩ (f172 l h f fs cs hl hf)) (zf (kG Y Y Y) (zf (zg Y Y) ?_))))))))
 refine zo (zN ?_)
 exact ⟨.inr Y, AVle.of (by rw [← zhV h l])⟩
theorem f146 (p:Int × Int):ACall Tryz.prog G 260 [.agg (eSpn p)] (.v (.bool (zgl p))):=by
 refine zO Tryz.func260 Y (by kernel_rfl) Y ?_
 refine zn (zf (ql Y (zQ Y)) (zf (zg Y Y) (zo (zn (zf (zi Y Y zax) (zf (zl Y Y Y ty3) (zf (qx Y Y Y) (zf (zh Y Y) ?_))))))))
 refine zC Y (fun hg=>zi Y Y zax) (zC Y (fun hg=>zl Y (if_pos hg) Y ty3) (zC Y (fun hg=>zi Y Y zaA) (zC Y (fun hg=>zl Y (if_pos hg) Y ty3) (zC Y (fun hg=>jB Y (if_pos hg) (if_pos hg)) (zf (jf Y Y Y Y) (zf (zh Y Y) (zC Y (fun hg=>zi Y Y zaA) (zC Y (fun hg=>zl Y (if_pos hg) Y ty3) (zC Y (fun hg=>jB Y (if_pos hg) Y) (zf (jf Y Y Y Y) (zf (zg Y Y) ?_)))))))))))
 refine zo (zN ?_)
 exact ⟨.inr Y, AVle.refl _⟩
theorem f148 (n:Int):ACall Tryz.prog G 262 [.v (.int .i64 n)] (.v (.bool (zhN n))):=by
 refine zO Tryz.func262 Y (by kernel_rfl) Y ?_
 refine zn (zf (zg Y Y) (zo (zn (zf (zh Y Y) (zf (zB (av:=[_, _, _]) Y ⟨Y, Y, Y, trivial⟩ (f107 _ _ _)) (zf (qJ Y Y) (zf (zg Y Y) (zM ?_))))))))
 refine zk (zN ?_)
 exact ⟨.inr Y, AVle.refl _⟩
theorem f116 (c:Cod) (hc:c.fields.length <= 1000 /\ c.turns.length <= 1000):ACall Tryz.prog G 212 [.agg (eCod c)] (.v (.bool (codB c))):=by
 refine zO Tryz.func212 Y (by kernel_rfl) Y ?_
 refine zn (zf (ql Y (zQ Y)) (zf (zg Y Y) (zo (zn (zf (zi Y Y yh) (zf (zl Y Y Y kS) (zf (qA Y Y Y Tryz.underlying23) (zf (zB (av:=[_, _, _]) Y ⟨Y, Y, Y, trivial⟩ (f107 _ _ _)) ?_))))))))
 refine zf (zh Y Y) (zC Y (fun hg=>zi Y Y zbi) (zC Y (fun hg=>zl Y (if_pos hg) Y zcX) (zC Y (fun hg=>qA Y Y (if_pos hg) Tryz.underlying24) (zC Y (fun hg=>qR Y (if_pos hg) Y) (zf (jg Y Y Y Y) (zf (zh Y Y) (zC Y (fun hg=>zi Y Y wQ) (zC Y (fun hg=>zl Y (if_pos hg) Y ty3) (zC Y (fun hg=>zB (av:=[_, _, _]) Y ⟨((if_pos hg)), Y, Y, trivial⟩ (f107 _ _ _)) (zf (jg Y Y Y Y) (zf (zh Y Y) ?_)))))))))))
 refine zC Y (fun hg=>zi Y Y yh) (zC Y (fun hg=>zl Y (if_pos hg) Y kS) (zC Y (fun hg=>zB (av:=[_, _]) Y ⟨((if_pos hg)), Y, trivial⟩ (f145 c.fields zgl 260 [] [] hc.1 (fun p _=>f146 p))) (zC Y (fun hg=>qJ Y (if_pos hg)) (zf (jg Y Y Y Y) (zf (zh Y Y) (zC Y (fun hg=>zi Y Y zbi) (zC Y (fun hg=>zl Y (if_pos hg) Y zcX) (zC Y (fun hg=>zB (av:=[_, _]) Y ⟨((if_pos hg)), Y, trivial⟩ (f147 c.turns zhN 262 [] [] hc.2 (fun n _=>f148 n))) (zC Y (fun hg=>qJ Y (if_pos hg)) (zf (jg Y Y Y Y) (zf (zg Y Y) ?_)))))))))))
 refine zo (zN ?_)
 exact ⟨.inr Y, AVle.of (by simp [codB, zDd])⟩
theorem f31 (c:Cod) (hc:c.fields.length <= 1000 /\ c.turns.length <= 1000):ACall Tryz.prog G 16 [.agg (eCod c)] (.v (.bool (codB c))):=by
 refine zO Tryz.func16 Y (by kernel_rfl) Y ?_
 refine zn (zf (ql Y (zQ Y)) (zf (zg Y Y) (zo (zt (zn (zf (zg Y Y) (zo ?_)))))))
 refine zF ?_
 refine qm (ι:={ k:Nat // k <= c.fields.length /\ (c.fields.take k).any zgl = false }) (fun k=>⟨Tryz.f16.ntmps, frL [(1, .pub (.ptr (eCod c))), (3, I (k.1:Int))], []⟩) (fun k=>c.fields.length - k.1) (⟨0, by simp⟩) ?_ ?_
 ·exact zy _ ⟨Y, Y, trivial⟩ (Y)
 ·rintro ⟨k, hk⟩
  dsimp only
  refine zt (zn (zf (zh Y Y) (zf (zi Y Y yh) (zf (zl Y Y Y kS) (zf (qA Y Y Y Tryz.underlying23) (zf (qx Y Y Y) (zo (zA Y (fun h0=>?_) (fun h0=>?_)))))))))
  ·have hlt:k < c.fields.length:=by simpa using h0
   refine zH (zk (zt (zF (zn (zf (zi Y Y yh) (zf (zl Y Y Y kS) (zf (zh Y Y) (zf (zD Y Y Y zaC (by omega) (zf8 hlt) zdm) (zf (zK Y Y zgU (by exact zLb Y)) ?_)))))))))
   refine qP  Y Y Y Y Y Y Y zrm zgU Y (by rfl) (zQ Y) Y ?_
   refine zo (zn (zf (zi Y Y zax) (zf (zl Y Y Y ty3) (zf (qx Y Y Y) (zf (zh Y Y) (zC Y (fun hg=>zi Y Y zax) (zC Y (fun hg=>zl Y (if_pos hg) Y ty3) (zC Y (fun hg=>zi Y Y zaA) (zC Y (fun hg=>zl Y (if_pos hg) Y ty3) ?_)))))))))
   refine zC Y (fun hg=>jB Y (if_pos hg) (if_pos hg)) (zf (jf Y Y Y Y) (zf (zh Y Y) (zC Y (fun hg=>zi Y Y zaA) (zC Y (fun hg=>zl Y (if_pos hg) Y ty3) (zC Y (fun hg=>jB Y (if_pos hg) Y) (zf (jf Y Y Y Y) (zo (zA Y (fun h1=>?_) (fun h1=>?_)))))))))
   ·have hb:zgl c.fields[k] = true:=by simp [zgl] at h1 ⊢; omega
    refine zn (zf (zg Y Y) (zo (zN (zZ (zP (zP (zZ (zP ?_))))))))
    exact ⟨.inr Y, AVle.of (by simp only[codB, List.any_eq_true.2 ⟨_, List.getElem_mem hlt, hb⟩, Bool.not_true, Bool.and_false, Bool.false_and])⟩
   ·have hb:zgl c.fields[k] = false:=by simp [zgl] at h1 ⊢; omega
    refine zH (zJ (zk (zx (zf (zh Y Y) (zf (zW Y Y Y ⟨by omega, by omega⟩) (zf (zg Y Y) (zM ?_)))))))
    exact ⟨⟨k + 1, by omega, zaI hk.2 hlt hb⟩, by dsimp only; omega, zy _ ⟨Y, Y, trivial⟩ (Y)⟩
  ·have hge:c.fields.length <= k:=by simpa using h0
   refine zAj (zS (zS (zAi (zk (zt (zn (zf (zg Y Y) (zo (zF ?_)))))))))
   refine qm (ι:={ j:Nat // j <= c.turns.length /\ (c.turns.take j).any zhN = false }) (fun j=>⟨Tryz.f16.ntmps, frL [(1, .pub (.ptr (eCod c))), (5, I (j.1:Int))], []⟩) (fun j=>c.turns.length - j.1) (⟨0, by simp⟩) ?_ ?_
   ·exact zy _ ⟨Y, Y, trivial⟩ (Y)
   ·rintro ⟨j, hj⟩
    dsimp only
    refine zt (zn (zf (zh Y Y) (zf (zi Y Y zbi) (zf (zl Y Y Y zcX) (zf (qA Y Y Y Tryz.underlying24) (zf (qx Y Y Y) (zo (zA Y (fun h2=>?_) (fun h2=>?_)))))))))
    ·have hlt2:j < c.turns.length:=by simpa [zDd] using h2
     refine zH (zk (zt (zF (zn (zf (zi Y Y zbi) (zf (zl Y Y Y zcX) (zf (zh Y Y) (zf (zD Y Y Y yR (by omega) (jM hlt2) qH) (zf (zl Y Y Y ty3) (zf (zB (av:=[_, _, _]) Y ⟨Y, Y, Y, trivial⟩ (f93 _ _ _)) ?_))))))))))
     refine zf (qJ Y Y) (zo (zA Y (fun h3=>?_) (fun h3=>?_)))
     ·have hb2:zhN c.turns[j] = true:=by simpa [zhN] using h3
      refine zn (zf (zg Y Y) (zo (zN (zZ (zP (zP (zZ (zP ?_))))))))
      exact ⟨.inr Y, AVle.of (by simp only[codB, List.any_eq_true.2 ⟨_, List.getElem_mem hlt2, hb2⟩, Bool.not_true, Bool.and_false])⟩
     ·have hb2:zhN c.turns[j] = false:=by simpa [zhN] using h3
      refine zH (zJ (zk (zx (zf (zh Y Y) (zf (zW Y Y Y ⟨by omega, by omega⟩) (zf (zg Y Y) (zM ?_)))))))
      exact ⟨⟨j + 1, by omega, zaI hj.2 hlt2 hb2⟩, by dsimp only; omega, zy _ ⟨Y, Y, trivial⟩ (Y)⟩
    ·have hge2:c.turns.length <= j:=by simpa [zDd] using h2
     refine zAj (zS (zS (zAi (zk (zn (zf (zi Y Y yh) (zf (zl Y Y Y kS) (zf (qA Y Y Y Tryz.underlying23) (zf (zB (av:=[_, _, _]) Y ⟨Y, Y, Y, trivial⟩ (f93 _ _ _)) (zf (zh Y Y) ?_))))))))))
     refine zC Y (fun hg=>zi Y Y zbi) (zC Y (fun hg=>zl Y (if_pos hg) Y zcX) (zC Y (fun hg=>qA Y Y (if_pos hg) Tryz.underlying24) (zC Y (fun hg=>qR Y (if_pos hg) Y) (zf (jg Y Y Y Y) (zf (zh Y Y) (zC Y (fun hg=>zi Y Y wQ) (zC Y (fun hg=>zl Y (if_pos hg) Y ty3) (zC Y (fun hg=>zB (av:=[_, _, _]) Y ⟨((if_pos hg)), Y, Y, trivial⟩ (f93 _ _ _)) (zf (jg Y Y Y Y) (zf (zg Y Y) (zM ?_)))))))))))
     refine zk (zN ?_)
     exact ⟨.inr Y, AVle.of (by rw [List.take_of_length_le hge] at hk; rw [List.take_of_length_le hge2] at hj; simp [codB, hk.2, hj.2, zDd])⟩
end Wr
end Go.Av
end
