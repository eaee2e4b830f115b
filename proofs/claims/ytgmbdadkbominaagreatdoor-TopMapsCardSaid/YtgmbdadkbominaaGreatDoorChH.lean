import Derived.Test.YtgmbdadkbominaaGreatDoorChG
import Derived.Test.YtgmbdadkbominaaGreatDoorChB
import Derived.Test.YtgmbdadkbominaaGreatDoorChA
set_option linter.unusedVariables false
set_option linter.unusedSimpArgs false
section
namespace Go.Av
namespace Ct
open Go.Proofs
set_option maxRecDepth 100000
set_option maxHeartbeats 1000000
variable {G:Glob}
theorem zah:tyIs Tryz.prog 189 true 3 = true:=by kernel_rfl
theorem wO {l:List Int} {k:Nat} (h:k < l.length):(l.map fun n=>[AV.v (.int .i64 n)])[k]? = some [.v (.int .i64 (l.getD k 0))]:=by simp [h, List.getD]
def shD (m:Mp) (p:Nat) (i:Nat):Int:=m.slope * dist m.wide (p:Int) (i:Int)
def shG (m:Mp) (p:Nat) (lvl:Int) (hi:Bool) (i:Nat):Int:=match hi with
 | true=>maxL [(los m).getD i 0, lvl - shD m p i]
 | false=>minL [(his m).getD i 0, lvl - 1 + shD m p i]
def shL (m:Mp) (p:Nat) (lvl:Int) (hi:Bool):List Int:=(List.range (npt m)).map (shG m p lvl hi)
def shE (m:Mp) (p:Nat) (lvl:Int) (hi:Bool) (i:Nat):List EV:=[I (shG m p lvl hi i)]
theorem zhE {m:Mp} (hm:okM m) {p i:Nat} (hp:p <= 30) (hi:i <= 30):0 <= shD m p i /\ shD m p i <= 180000:=by
 obtain ⟨m1, m2, m3, m4, m5, m6, m7, m8⟩:=hm
 have h:=zh4 (w:=m.wide) (a:=(p:Int)) (b:=(i:Int)) (N:=30) m1 (by omega) (by omega)
 unfold shD
 have h1:=Int.mul_nonneg m5 h.1
 have h2:m.slope * dist m.wide (p:Int) (i:Int) <= 5000 * 36:=Int.mul_le_mul m6 (by omega) h.1 (by omega)
 omega
theorem zgt (m:Mp) (p:Nat) (lvl:Int) (hm:okM m) (hp:p < npt m) (hv:1 <= lvl /\ lvl <= 99999) (h:(decide ((his m).getD p 0 < lvl)) = true):ACall Tryz.prog G 187 [.agg (qB m), .agg (yQ (p:Int) lvl true)] (.tup [.v (.slice none 0 0), .v (.bool false)]):=by
 have hn:=npt_bd hm
 have ho:=hm
 obtain ⟨m1, m2, m3, m4, m5, m6, m7, m8⟩:=ho
 have har:=area m1 m2 m3 m4
 have hlol:=wU m
 have hhil:=wS m
 refine zO Tryz.func187 Y (by kernel_rfl) Y ?_
 refine zn (zf (ql Y (zQ Y)) (zf (ql Y (zQ Y)) (zf (zg Y Y) (zf (zg Y Y) (zo (zn (zf (zK Y Y jF (by exact zLb Y)) (zf (zB (av:=[_]) Y ⟨Y, trivial⟩ (f64 m hm)) ?_))))))))
 refine qP  Y Y Y Y Y Y Y zbX zby Y (by rfl) (zQ Y) Y ?_
 refine zo (zn (zf (zg Y Y) (zo (zt (zn (zf (qc Y Y Y ji (by omega) (by omega)) (zf (zl Y Y Y jH) ?_)))))))
 refine zf (vg Y Y Tryz.underlying24) (zf (zh Y Y) (zo (zF ?_)))
 refine qY (zaR 7 Y) ?_
 refine qm (ι:={ k:Nat // k <= npt m }) (fun k=>⟨Tryz.f187.ntmps, frL [(2, .pub (.ptr (qB m))), (3, .pub (.ptr (yQ (p:Int) lvl true))), (6, .pub (.ptr [eInts (los m), eInts (his m)])), (7, .psl 0 k.1), (15, I (npt m:Int)), (16, I (k.1:Int))], [.row ((List.range k.1).map (shE m p lvl true))]⟩) (fun k=>npt m - k.1) (⟨0, by omega⟩) ?_ ?_
 ·exact zy _ ⟨Y, Y, Y, Y, (congrArg (fun n:Nat=>I (n:Int)) hlol), Y, trivial⟩ (Y)
 ·rintro ⟨k, hk⟩
  dsimp only
  refine zn (zf (qx Y Y Y) (zo (zt (zA Y (fun h0=>?_) (fun h0=>?_)))))
  ·have hk1:k < npt m:=by simp at h0; omega
   have hdb:=zhE hm (p:=p) (i:=k) (by omega) (by omega)
   unfold shD at hdb
   refine zH (zk (zt (zF (zn (zf (zh Y Y) (zf (zg Y Y) (zo (zt ?_))))))))
   refine qp mixed (by kernel_rfl) Y ?_
   refine zu Y (zi Y Y jQ) (zu Y (zi Y Y yO) (zu Y (zl Y Y Y ty3) (zu Y (zi Y Y yI) (zu Y (zK Y Y yw (by exact zLb Y)) (zu Y (zi Y Y jK) (zu Y (zl Y Y Y ty3) (zu Y (zh Y Y) (zu Y (zB (av:=[_, _, _]) Y ⟨Y, Y, Y, trivial⟩ (f119 m.wide m.rows (p:Int) (k:Int) (by omega) (by omega) (by omega))) (zu Y (ya Y Y Y ⟨by omega, by omega⟩) (zu Y (zg Y Y) (qF ?_)))))))))))
   refine zk (zt ?_)
   refine qp mixed (by kernel_rfl) Y ?_
   refine zu Y (qc Y Y Y ji (by omega) (by omega)) (zu Y (zl Y Y Y jH) (zu Y (zh Y Y) (zu Y (zD Y Y Y jV (by omega) (wO (by omega)) qH) (zu Y (zl Y Y Y ty3) (zu Y (zi Y Y jA) (zu Y (zl Y Y Y ty3) (zu Y (vN Y Y Y ⟨by omega, by omega⟩) (zu Y (zh Y Y) (zu Y (zW Y Y Y ⟨by omega, by omega⟩) ?_)))))))))
   refine zu Y (qy (size:=1) (rows:=[[_], [_]]) Y Tryz.underlying24 ti3 Y (by decide) Y (by decide) ⟨_, _, Y, (qU Y), ⟨_, _, Y, (qU Y), Y⟩⟩ (by rfl) (by simp [ofV]) Y (by simp)) ?_
   refine zu Y (zB (av:=[_]) Y ⟨Y, trivial⟩ (f135 [_, _] (by simp) (by simp))) ?_
   refine zu Y (zg Y Y) (qF (zk (zt (zn (zf (zi Y Y jC) (zf (zl Y Y Y ty4) (zo (zA Y (fun h1=>?_) (fun h1=>?_)))))))))
   ·refine qp mixed (by kernel_rfl) Y ?_
    refine zu Y (qc Y Y Y ji (by omega) (by omega)) (zu Y (zl Y Y Y jH) (zu Y (zh Y Y) (zu Y (zD Y Y Y jV (by omega) (wO (by omega)) qH) (zu Y (zl Y Y Y ty3) (zu Y (zi Y Y jA) (zu Y (zl Y Y Y ty3) (zu Y (zh Y Y) (zu Y (vN Y Y Y ⟨by omega, by omega⟩) ?_))))))))
    refine zu Y (qy (size:=1) (rows:=[[_], [_]]) Y Tryz.underlying24 ti3 Y (by decide) Y (by decide) ⟨_, _, Y, (qU Y), ⟨_, _, Y, (qU Y), Y⟩⟩ (by rfl) (by simp [ofV]) Y (by simp)) ?_
    refine zu Y (zB (av:=[_]) Y ⟨Y, trivial⟩ (f136 [_, _] (by simp) (by simp))) ?_
    refine zu Y (zg Y Y) (qF (zk (zx (zf (jq Y Y) (zf (zh Y Y) ?_)))))
    refine zf (qy (size:=1) (rows:=[[_]]) Y Tryz.underlying24 ti3 Y (by decide) Y (by decide) ⟨_, _, Y, (qU Y), Y⟩ (by rfl) (by simp [ofV]) Y (by simp)) ?_
    refine qL Y (yJ Y Y Y Y (by simp) Y zmV (zaB fun _=>rfl) (by simp) (by simp; omega) (by unfold maxLen; simp; omega)) ?_
    refine zf (jm Y Y) (zM (zJ (zk (zx (zf (zW Y Y Y ⟨by omega, by omega⟩) (zf (zh Y Y) (zM ?_)))))))
    exact ⟨⟨k + 1, by omega⟩, by dsimp only; omega, zy _ ⟨Y, Y, Y, Y, Y, Y, trivial⟩ ((congrArg (fun z=>[PO.row z]) (yx (shE m p lvl true) k)))⟩
   ·exfalso; simp at h1
  ·have hge:k = npt m:=by simp at h0; omega
   subst hge
   refine qg (zS (zS (qh (zk (zt (zt ?_))))))
   refine qp mixed (by kernel_rfl) Y ?_
   refine zu Y (zi Y Y jC) (zu Y (zl Y Y Y ty4) (zu Y (zh Y Y) (zq Y (fun hg=>qc Y Y Y ji (by omega) (by omega)) (zq Y (fun hg=>zl Y (Y) Y jH) (zq Y (fun hg=>zi Y Y jK) (zq Y (fun hg=>zl Y (Y) Y ty3) (zq Y (fun hg=>zD Y (Y) (Y) jV (by omega) (wO (by omega)) qH) (zq Y (fun hg=>zl Y (Y) Y ty3) (zq Y (fun hg=>zi Y Y jA) (zq Y (fun hg=>zl Y (Y) Y ty3) (zq Y (fun hg=>qx Y (Y) (Y)) ?_)))))))))))
   refine zu Y (jg Y Y Y Y) (zu Y (zh Y Y) (zq Y (fun hg=>zi Y Y jC) (zq Y (fun hg=>zl Y (if_pos hg) Y ty4) (zq Y (fun hg=>qJ Y (if_pos hg)) (zq Y (fun hg=>zh Y (if_pos hg)) (zq (zT Y Y Y) (fun hg=>qc Y Y Y ji (by omega) (by omega)) (zq (zT Y Y Y) (fun hg=>zl Y (if_pos hg) Y jH) (zq (zT Y Y Y) (fun hg=>zi Y Y jK) (zq (zT Y Y Y) (fun hg=>zl Y (if_pos hg) Y ty3) (zq (zT Y Y Y) (fun hg=>zD Y (if_pos hg) (if_pos hg) jV (by omega) (wO (by omega)) qH) (zq (zT Y Y Y) (fun hg=>zl Y (if_pos hg) Y ty3) ?_)))))))))))
   refine zq (zT Y Y Y) (fun hg=>zi Y Y jA) (zq (zT Y Y Y) (fun hg=>zl Y (if_pos hg) Y ty3) (zq (zT Y Y Y) (fun hg=>kG Y (if_pos hg) (if_pos hg)) (zq Y (fun hg=>jg Y (if_pos hg) (vG hg) Y) (zu Y (jf Y Y Y Y) (qF (zk (zA Y (fun h2=>?_) (fun h2=>?_))))))))
   ·refine zn (zf (zg Y Y) (zf (zg Y Y) (zo (zN (zP ?_)))))
    exact ⟨.inr Y, ⟨_, Y, ⟨_, _, Y, AVle.refl _, ⟨_, _, Y, AVle.refl _, Y⟩⟩⟩⟩
   ·exfalso; simp at h2 h; omega
theorem zgJ (m:Mp) (p:Nat) (lvl:Int) (hm:okM m) (hp:p < npt m) (hv:1 <= lvl /\ lvl <= 99999) (h:(decide ((his m).getD p 0 < lvl)) = false):ACall Tryz.prog G 187 [.agg (qB m), .agg (yQ (p:Int) lvl true)] (.tup [eInts (shL m p lvl true), .v (.bool (zgy m.wide m.rows (shL m p lvl true) lvl true p))]):=by
 have hn:=npt_bd hm
 have ho:=hm
 obtain ⟨m1, m2, m3, m4, m5, m6, m7, m8⟩:=ho
 have har:=area m1 m2 m3 m4
 have hlol:=wU m
 have hhil:=wS m
 refine zO Tryz.func187 Y (by kernel_rfl) Y ?_
 refine zn (zf (ql Y (zQ Y)) (zf (ql Y (zQ Y)) (zf (zg Y Y) (zf (zg Y Y) (zo (zn (zf (zK Y Y jF (by exact zLb Y)) (zf (zB (av:=[_]) Y ⟨Y, trivial⟩ (f64 m hm)) ?_))))))))
 refine qP  Y Y Y Y Y Y Y zbX zby Y (by rfl) (zQ Y) Y ?_
 refine zo (zn (zf (zg Y Y) (zo (zt (zn (zf (qc Y Y Y ji (by omega) (by omega)) (zf (zl Y Y Y jH) ?_)))))))
 refine zf (vg Y Y Tryz.underlying24) (zf (zh Y Y) (zo (zF ?_)))
 refine qY (zaR 7 Y) ?_
 refine qm (ι:={ k:Nat // k <= npt m }) (fun k=>⟨Tryz.f187.ntmps, frL [(2, .pub (.ptr (qB m))), (3, .pub (.ptr (yQ (p:Int) lvl true))), (6, .pub (.ptr [eInts (los m), eInts (his m)])), (7, .psl 0 k.1), (15, I (npt m:Int)), (16, I (k.1:Int))], [.row ((List.range k.1).map (shE m p lvl true))]⟩) (fun k=>npt m - k.1) (⟨0, by omega⟩) ?_ ?_
 ·exact zy _ ⟨Y, Y, Y, Y, (congrArg (fun n:Nat=>I (n:Int)) hlol), Y, trivial⟩ (Y)
 ·rintro ⟨k, hk⟩
  dsimp only
  refine zn (zf (qx Y Y Y) (zo (zt (zA Y (fun h0=>?_) (fun h0=>?_)))))
  ·have hk1:k < npt m:=by simp at h0; omega
   have hdb:=zhE hm (p:=p) (i:=k) (by omega) (by omega)
   unfold shD at hdb
   refine zH (zk (zt (zF (zn (zf (zh Y Y) (zf (zg Y Y) (zo (zt ?_))))))))
   refine qp mixed (by kernel_rfl) Y ?_
   refine zu Y (zi Y Y jQ) (zu Y (zi Y Y yO) (zu Y (zl Y Y Y ty3) (zu Y (zi Y Y yI) (zu Y (zK Y Y yw (by exact zLb Y)) (zu Y (zi Y Y jK) (zu Y (zl Y Y Y ty3) (zu Y (zh Y Y) (zu Y (zB (av:=[_, _, _]) Y ⟨Y, Y, Y, trivial⟩ (f119 m.wide m.rows (p:Int) (k:Int) (by omega) (by omega) (by omega))) (zu Y (ya Y Y Y ⟨by omega, by omega⟩) (zu Y (zg Y Y) (qF ?_)))))))))))
   refine zk (zt ?_)
   refine qp mixed (by kernel_rfl) Y ?_
   refine zu Y (qc Y Y Y ji (by omega) (by omega)) (zu Y (zl Y Y Y jH) (zu Y (zh Y Y) (zu Y (zD Y Y Y jV (by omega) (wO (by omega)) qH) (zu Y (zl Y Y Y ty3) (zu Y (zi Y Y jA) (zu Y (zl Y Y Y ty3) (zu Y (vN Y Y Y ⟨by omega, by omega⟩) (zu Y (zh Y Y) (zu Y (zW Y Y Y ⟨by omega, by omega⟩) ?_)))))))))
   refine zu Y (qy (size:=1) (rows:=[[_], [_]]) Y Tryz.underlying24 ti3 Y (by decide) Y (by decide) ⟨_, _, Y, (qU Y), ⟨_, _, Y, (qU Y), Y⟩⟩ (by rfl) (by simp [ofV]) Y (by simp)) ?_
   refine zu Y (zB (av:=[_]) Y ⟨Y, trivial⟩ (f135 [_, _] (by simp) (by simp))) ?_
   refine zu Y (zg Y Y) (qF (zk (zt (zn (zf (zi Y Y jC) (zf (zl Y Y Y ty4) (zo (zA Y (fun h1=>?_) (fun h1=>?_)))))))))
   ·refine qp mixed (by kernel_rfl) Y ?_
    refine zu Y (qc Y Y Y ji (by omega) (by omega)) (zu Y (zl Y Y Y jH) (zu Y (zh Y Y) (zu Y (zD Y Y Y jV (by omega) (wO (by omega)) qH) (zu Y (zl Y Y Y ty3) (zu Y (zi Y Y jA) (zu Y (zl Y Y Y ty3) (zu Y (zh Y Y) (zu Y (vN Y Y Y ⟨by omega, by omega⟩) ?_))))))))
    refine zu Y (qy (size:=1) (rows:=[[_], [_]]) Y Tryz.underlying24 ti3 Y (by decide) Y (by decide) ⟨_, _, Y, (qU Y), ⟨_, _, Y, (qU Y), Y⟩⟩ (by rfl) (by simp [ofV]) Y (by simp)) ?_
    refine zu Y (zB (av:=[_]) Y ⟨Y, trivial⟩ (f136 [_, _] (by simp) (by simp))) ?_
    refine zu Y (zg Y Y) (qF (zk (zx (zf (jq Y Y) (zf (zh Y Y) ?_)))))
    refine zf (qy (size:=1) (rows:=[[_]]) Y Tryz.underlying24 ti3 Y (by decide) Y (by decide) ⟨_, _, Y, (qU Y), Y⟩ (by rfl) (by simp [ofV]) Y (by simp)) ?_
    refine qL Y (yJ Y Y Y Y (by simp) Y zmV (zaB fun _=>rfl) (by simp) (by simp; omega) (by unfold maxLen; simp; omega)) ?_
    refine zf (jm Y Y) (zM (zJ (zk (zx (zf (zW Y Y Y ⟨by omega, by omega⟩) (zf (zh Y Y) (zM ?_)))))))
    exact ⟨⟨k + 1, by omega⟩, by dsimp only; omega, zy _ ⟨Y, Y, Y, Y, Y, Y, trivial⟩ ((congrArg (fun z=>[PO.row z]) (yx (shE m p lvl true) k)))⟩
   ·exfalso; simp at h1
  ·have hge:k = npt m:=by simp at h0; omega
   subst hge
   refine qg (zS (zS (qh (zk (zt (zt ?_))))))
   refine qp mixed (by kernel_rfl) Y ?_
   refine zu Y (zi Y Y jC) (zu Y (zl Y Y Y ty4) (zu Y (zh Y Y) (zq Y (fun hg=>qc Y Y Y ji (by omega) (by omega)) (zq Y (fun hg=>zl Y (Y) Y jH) (zq Y (fun hg=>zi Y Y jK) (zq Y (fun hg=>zl Y (Y) Y ty3) (zq Y (fun hg=>zD Y (Y) (Y) jV (by omega) (wO (by omega)) qH) (zq Y (fun hg=>zl Y (Y) Y ty3) (zq Y (fun hg=>zi Y Y jA) (zq Y (fun hg=>zl Y (Y) Y ty3) (zq Y (fun hg=>qx Y (Y) (Y)) ?_)))))))))))
   refine zu Y (jg Y Y Y Y) (zu Y (zh Y Y) (zq Y (fun hg=>zi Y Y jC) (zq Y (fun hg=>zl Y (if_pos hg) Y ty4) (zq Y (fun hg=>qJ Y (if_pos hg)) (zq Y (fun hg=>zh Y (if_pos hg)) (zq (zT Y Y Y) (fun hg=>qc Y Y Y ji (by omega) (by omega)) (zq (zT Y Y Y) (fun hg=>zl Y (if_pos hg) Y jH) (zq (zT Y Y Y) (fun hg=>zi Y Y jK) (zq (zT Y Y Y) (fun hg=>zl Y (if_pos hg) Y ty3) (zq (zT Y Y Y) (fun hg=>zD Y (if_pos hg) (if_pos hg) jV (by omega) (wO (by omega)) qH) (zq (zT Y Y Y) (fun hg=>zl Y (if_pos hg) Y ty3) ?_)))))))))))
   refine zq (zT Y Y Y) (fun hg=>zi Y Y jA) (zq (zT Y Y Y) (fun hg=>zl Y (if_pos hg) Y ty3) (zq (zT Y Y Y) (fun hg=>kG Y (if_pos hg) (if_pos hg)) (zq Y (fun hg=>jg Y (if_pos hg) (vG hg) Y) (zu Y (jf Y Y Y Y) (qF (zk (zA Y (fun h2=>?_) (fun h2=>?_))))))))
   ·exfalso; simp at h2 h; omega
   ·refine zH (zk (zt ?_))
    refine qY (zf4 (k:=0) (m:=npt m) (rows:=(shL m p lvl true).map fun n=>[.v (.int .i64 n)]) [7] ?_ ?_ ?_) ?_
    ·show some (PO.row _) = some (PO.row _); simp [shL, shE, Function.comp_def, I]
    ·simp [shL]
    ·intro d hd; rw [List.mem_singleton] at hd; subst hd; rfl
    refine zx (zf (zI Y Y) (zf (zK Y Y jF (by exact zLb Y)) (zf (zK Y Y zah (by exact zLb Y)) (zf (zI Y Y) ?_))))
    refine zf (zB (av:=[_, _, _]) Y ⟨Y, Y, Y, trivial⟩ (f134 m p lvl true (shL m p lvl true) hm hp (by simp [shL]))) ?_
    refine zf (qG Y Y) (zf (zg Y Y) (zo (zN ?_)))
    exact ⟨.inr Y, ⟨_, Y, ⟨_, _, Y, AVle.refl _, ⟨_, _, Y, AVle.refl _, Y⟩⟩⟩⟩
theorem zgm (m:Mp) (p:Nat) (lvl:Int) (hm:okM m) (hp:p < npt m) (hv:1 <= lvl /\ lvl <= 99999) (h:(decide (lvl <= (los m).getD p 0)) = true):ACall Tryz.prog G 187 [.agg (qB m), .agg (yQ (p:Int) lvl false)] (.tup [.v (.slice none 0 0), .v (.bool false)]):=by
 have hn:=npt_bd hm
 have ho:=hm
 obtain ⟨m1, m2, m3, m4, m5, m6, m7, m8⟩:=ho
 have har:=area m1 m2 m3 m4
 have hlol:=wU m
 have hhil:=wS m
 refine zO Tryz.func187 Y (by kernel_rfl) Y ?_
 refine zn (zf (ql Y (zQ Y)) (zf (ql Y (zQ Y)) (zf (zg Y Y) (zf (zg Y Y) (zo (zn (zf (zK Y Y jF (by exact zLb Y)) (zf (zB (av:=[_]) Y ⟨Y, trivial⟩ (f64 m hm)) ?_))))))))
 refine qP  Y Y Y Y Y Y Y zbX zby Y (by rfl) (zQ Y) Y ?_
 refine zo (zn (zf (zg Y Y) (zo (zt (zn (zf (qc Y Y Y ji (by omega) (by omega)) (zf (zl Y Y Y jH) ?_)))))))
 refine zf (vg Y Y Tryz.underlying24) (zf (zh Y Y) (zo (zF ?_)))
 refine qY (zaR 7 Y) ?_
 refine qm (ι:={ k:Nat // k <= npt m }) (fun k=>⟨Tryz.f187.ntmps, frL [(2, .pub (.ptr (qB m))), (3, .pub (.ptr (yQ (p:Int) lvl false))), (6, .pub (.ptr [eInts (los m), eInts (his m)])), (7, .psl 0 k.1), (15, I (npt m:Int)), (16, I (k.1:Int))], [.row ((List.range k.1).map (shE m p lvl false))]⟩) (fun k=>npt m - k.1) (⟨0, by omega⟩) ?_ ?_
 ·exact zy _ ⟨Y, Y, Y, Y, (congrArg (fun n:Nat=>I (n:Int)) hlol), Y, trivial⟩ (Y)
 ·rintro ⟨k, hk⟩
  dsimp only
  refine zn (zf (qx Y Y Y) (zo (zt (zA Y (fun h0=>?_) (fun h0=>?_)))))
  ·have hk1:k < npt m:=by simp at h0; omega
   have hdb:=zhE hm (p:=p) (i:=k) (by omega) (by omega)
   unfold shD at hdb
   refine zH (zk (zt (zF (zn (zf (zh Y Y) (zf (zg Y Y) (zo (zt ?_))))))))
   refine qp mixed (by kernel_rfl) Y ?_
   refine zu Y (zi Y Y jQ) (zu Y (zi Y Y yO) (zu Y (zl Y Y Y ty3) (zu Y (zi Y Y yI) (zu Y (zK Y Y yw (by exact zLb Y)) (zu Y (zi Y Y jK) (zu Y (zl Y Y Y ty3) (zu Y (zh Y Y) (zu Y (zB (av:=[_, _, _]) Y ⟨Y, Y, Y, trivial⟩ (f119 m.wide m.rows (p:Int) (k:Int) (by omega) (by omega) (by omega))) (zu Y (ya Y Y Y ⟨by omega, by omega⟩) (zu Y (zg Y Y) (qF ?_)))))))))))
   refine zk (zt ?_)
   refine qp mixed (by kernel_rfl) Y ?_
   refine zu Y (qc Y Y Y ji (by omega) (by omega)) (zu Y (zl Y Y Y jH) (zu Y (zh Y Y) (zu Y (zD Y Y Y jV (by omega) (wO (by omega)) qH) (zu Y (zl Y Y Y ty3) (zu Y (zi Y Y jA) (zu Y (zl Y Y Y ty3) (zu Y (vN Y Y Y ⟨by omega, by omega⟩) (zu Y (zh Y Y) (zu Y (zW Y Y Y ⟨by omega, by omega⟩) ?_)))))))))
   refine zu Y (qy (size:=1) (rows:=[[_], [_]]) Y Tryz.underlying24 ti3 Y (by decide) Y (by decide) ⟨_, _, Y, (qU Y), ⟨_, _, Y, (qU Y), Y⟩⟩ (by rfl) (by simp [ofV]) Y (by simp)) ?_
   refine zu Y (zB (av:=[_]) Y ⟨Y, trivial⟩ (f135 [_, _] (by simp) (by simp))) ?_
   refine zu Y (zg Y Y) (qF (zk (zt (zn (zf (zi Y Y jC) (zf (zl Y Y Y ty4) (zo (zA Y (fun h1=>?_) (fun h1=>?_)))))))))
   ·exfalso; simp at h1
   ·refine zH (zk (zx (zf (jq Y Y) (zf (zh Y Y) ?_))))
    refine zf (qy (size:=1) (rows:=[[_]]) Y Tryz.underlying24 ti3 Y (by decide) Y (by decide) ⟨_, _, Y, (qU Y), Y⟩ (by rfl) (by simp [ofV]) Y (by simp)) ?_
    refine qL Y (yJ Y Y Y Y (by simp) Y zmV (zaB fun _=>rfl) (by simp) (by simp; omega) (by unfold maxLen; simp; omega)) ?_
    refine zf (jm Y Y) (zM (zJ (zk (zx (zf (zW Y Y Y ⟨by omega, by omega⟩) (zf (zh Y Y) (zM ?_)))))))
    exact ⟨⟨k + 1, by omega⟩, by dsimp only; omega, zy _ ⟨Y, Y, Y, Y, Y, Y, trivial⟩ ((congrArg (fun z=>[PO.row z]) (yx (shE m p lvl false) k)))⟩
  ·have hge:k = npt m:=by simp at h0; omega
   subst hge
   refine qg (zS (zS (qh (zk (zt (zt ?_))))))
   refine qp mixed (by kernel_rfl) Y ?_
   refine zu Y (zi Y Y jC) (zu Y (zl Y Y Y ty4) (zu Y (zh Y Y) (zq Y (fun hg=>qc Y Y Y ji (by omega) (by omega)) ?_)))
   refine zq (x:=.pub (.tup [])) Y (fun hg=>absurd hg (by decide)) ?_
   refine zq Y (fun hg=>zi Y Y jK) ?_
   refine zq (x:=.pub (.tup [])) Y (fun hg=>absurd hg (by decide)) ?_
   refine zq (x:=.pub (.tup [])) Y (fun hg=>absurd hg (by decide)) ?_
   refine zq (x:=.pub (.tup [])) Y (fun hg=>absurd hg (by decide)) ?_
   refine zq Y (fun hg=>zi Y Y jA) ?_
   refine zq (x:=.pub (.tup [])) Y (fun hg=>absurd hg (by decide)) ?_
   refine zq (x:=.pub (.tup [])) Y (fun hg=>absurd hg (by decide)) ?_
   refine zu Y (yZ Y Y (fun h=>absurd h (by decide)) (fun _=>rfl)) ?_
   refine zu Y (zh Y Y) (zq Y (fun hg=>zi Y Y jC) (zq Y (fun hg=>zl Y (Y) Y ty4) (zq Y (fun hg=>qJ Y (Y)) (zq Y (fun hg=>zh Y (Y)) (zq Y (fun hg=>qc Y Y Y ji (by omega) (by omega)) (zq Y (fun hg=>zl Y Y Y jH) (zq Y (fun hg=>zi Y Y jK) (zq Y (fun hg=>zl Y Y Y ty3) (zq Y (fun hg=>zD Y Y Y jV (by omega) (wO (by omega)) qH) (zq Y (fun hg=>zl Y Y Y ty3) (zq Y (fun hg=>zi Y Y jA) ?_)))))))))))
   refine zq Y (fun hg=>zl Y Y Y ty3) (zq Y (fun hg=>kG Y Y Y) (zq Y (fun hg=>jg Y Y Y Y) (zu Y (jf Y Y Y Y) (qF (zk (zA Y (fun h2=>?_) (fun h2=>?_)))))))
   ·refine zn (zf (zg Y Y) (zf (zg Y Y) (zo (zN (zP ?_)))))
    exact ⟨.inr Y, ⟨_, Y, ⟨_, _, Y, AVle.refl _, ⟨_, _, Y, AVle.refl _, Y⟩⟩⟩⟩
   ·exfalso; simp at h2 h; omega
theorem zf1 (m:Mp) (p:Nat) (lvl:Int) (hm:okM m) (hp:p < npt m) (hv:1 <= lvl /\ lvl <= 99999) (h:(decide (lvl <= (los m).getD p 0)) = false):ACall Tryz.prog G 187 [.agg (qB m), .agg (yQ (p:Int) lvl false)] (.tup [eInts (shL m p lvl false), .v (.bool (zgy m.wide m.rows (shL m p lvl false) lvl false p))]):=by
 have hn:=npt_bd hm
 have ho:=hm
 obtain ⟨m1, m2, m3, m4, m5, m6, m7, m8⟩:=ho
 have har:=area m1 m2 m3 m4
 have hlol:=wU m
 have hhil:=wS m
 refine zO Tryz.func187 Y (by kernel_rfl) Y ?_
 refine zn (zf (ql Y (zQ Y)) (zf (ql Y (zQ Y)) (zf (zg Y Y) (zf (zg Y Y) (zo (zn (zf (zK Y Y jF (by exact zLb Y)) (zf (zB (av:=[_]) Y ⟨Y, trivial⟩ (f64 m hm)) ?_))))))))
 refine qP  Y Y Y Y Y Y Y zbX zby Y (by rfl) (zQ Y) Y ?_
 refine zo (zn (zf (zg Y Y) (zo (zt (zn (zf (qc Y Y Y ji (by omega) (by omega)) (zf (zl Y Y Y jH) ?_)))))))
 refine zf (vg Y Y Tryz.underlying24) (zf (zh Y Y) (zo (zF ?_)))
 refine qY (zaR 7 Y) ?_
 refine qm (ι:={ k:Nat // k <= npt m }) (fun k=>⟨Tryz.f187.ntmps, frL [(2, .pub (.ptr (qB m))), (3, .pub (.ptr (yQ (p:Int) lvl false))), (6, .pub (.ptr [eInts (los m), eInts (his m)])), (7, .psl 0 k.1), (15, I (npt m:Int)), (16, I (k.1:Int))], [.row ((List.range k.1).map (shE m p lvl false))]⟩) (fun k=>npt m - k.1) (⟨0, by omega⟩) ?_ ?_
 ·exact zy _ ⟨Y, Y, Y, Y, (congrArg (fun n:Nat=>I (n:Int)) hlol), Y, trivial⟩ (Y)
 ·rintro ⟨k, hk⟩
  dsimp only
  refine zn (zf (qx Y Y Y) (zo (zt (zA Y (fun h0=>?_) (fun h0=>?_)))))
  ·have hk1:k < npt m:=by simp at h0; omega
   have hdb:=zhE hm (p:=p) (i:=k) (by omega) (by omega)
   unfold shD at hdb
   refine zH (zk (zt (zF (zn (zf (zh Y Y) (zf (zg Y Y) (zo (zt ?_))))))))
   refine qp mixed (by kernel_rfl) Y ?_
   refine zu Y (zi Y Y jQ) (zu Y (zi Y Y yO) (zu Y (zl Y Y Y ty3) (zu Y (zi Y Y yI) (zu Y (zK Y Y yw (by exact zLb Y)) (zu Y (zi Y Y jK) (zu Y (zl Y Y Y ty3) (zu Y (zh Y Y) (zu Y (zB (av:=[_, _, _]) Y ⟨Y, Y, Y, trivial⟩ (f119 m.wide m.rows (p:Int) (k:Int) (by omega) (by omega) (by omega))) (zu Y (ya Y Y Y ⟨by omega, by omega⟩) (zu Y (zg Y Y) (qF ?_)))))))))))
   refine zk (zt ?_)
   refine qp mixed (by kernel_rfl) Y ?_
   refine zu Y (qc Y Y Y ji (by omega) (by omega)) (zu Y (zl Y Y Y jH) (zu Y (zh Y Y) (zu Y (zD Y Y Y jV (by omega) (wO (by omega)) qH) (zu Y (zl Y Y Y ty3) (zu Y (zi Y Y jA) (zu Y (zl Y Y Y ty3) (zu Y (vN Y Y Y ⟨by omega, by omega⟩) (zu Y (zh Y Y) (zu Y (zW Y Y Y ⟨by omega, by omega⟩) ?_)))))))))
   refine zu Y (qy (size:=1) (rows:=[[_], [_]]) Y Tryz.underlying24 ti3 Y (by decide) Y (by decide) ⟨_, _, Y, (qU Y), ⟨_, _, Y, (qU Y), Y⟩⟩ (by rfl) (by simp [ofV]) Y (by simp)) ?_
   refine zu Y (zB (av:=[_]) Y ⟨Y, trivial⟩ (f135 [_, _] (by simp) (by simp))) ?_
   refine zu Y (zg Y Y) (qF (zk (zt (zn (zf (zi Y Y jC) (zf (zl Y Y Y ty4) (zo (zA Y (fun h1=>?_) (fun h1=>?_)))))))))
   ·exfalso; simp at h1
   ·refine zH (zk (zx (zf (jq Y Y) (zf (zh Y Y) ?_))))
    refine zf (qy (size:=1) (rows:=[[_]]) Y Tryz.underlying24 ti3 Y (by decide) Y (by decide) ⟨_, _, Y, (qU Y), Y⟩ (by rfl) (by simp [ofV]) Y (by simp)) ?_
    refine qL Y (yJ Y Y Y Y (by simp) Y zmV (zaB fun _=>rfl) (by simp) (by simp; omega) (by unfold maxLen; simp; omega)) ?_
    refine zf (jm Y Y) (zM (zJ (zk (zx (zf (zW Y Y Y ⟨by omega, by omega⟩) (zf (zh Y Y) (zM ?_)))))))
    exact ⟨⟨k + 1, by omega⟩, by dsimp only; omega, zy _ ⟨Y, Y, Y, Y, Y, Y, trivial⟩ ((congrArg (fun z=>[PO.row z]) (yx (shE m p lvl false) k)))⟩
  ·have hge:k = npt m:=by simp at h0; omega
   subst hge
   refine qg (zS (zS (qh (zk (zt (zt ?_))))))
   refine qp mixed (by kernel_rfl) Y ?_
   refine zu Y (zi Y Y jC) (zu Y (zl Y Y Y ty4) (zu Y (zh Y Y) (zq Y (fun hg=>qc Y Y Y ji (by omega) (by omega)) ?_)))
   refine zq (x:=.pub (.tup [])) Y (fun hg=>absurd hg (by decide)) ?_
   refine zq Y (fun hg=>zi Y Y jK) ?_
   refine zq (x:=.pub (.tup [])) Y (fun hg=>absurd hg (by decide)) ?_
   refine zq (x:=.pub (.tup [])) Y (fun hg=>absurd hg (by decide)) ?_
   refine zq (x:=.pub (.tup [])) Y (fun hg=>absurd hg (by decide)) ?_
   refine zq Y (fun hg=>zi Y Y jA) ?_
   refine zq (x:=.pub (.tup [])) Y (fun hg=>absurd hg (by decide)) ?_
   refine zq (x:=.pub (.tup [])) Y (fun hg=>absurd hg (by decide)) ?_
   refine zu Y (yZ Y Y (fun h=>absurd h (by decide)) (fun _=>rfl)) ?_
   refine zu Y (zh Y Y) (zq Y (fun hg=>zi Y Y jC) (zq Y (fun hg=>zl Y (Y) Y ty4) (zq Y (fun hg=>qJ Y (Y)) (zq Y (fun hg=>zh Y (Y)) (zq Y (fun hg=>qc Y Y Y ji (by omega) (by omega)) (zq Y (fun hg=>zl Y Y Y jH) (zq Y (fun hg=>zi Y Y jK) (zq Y (fun hg=>zl Y Y Y ty3) (zq Y (fun hg=>zD Y Y Y jV (by omega) (wO (by omega)) qH) (zq Y (fun hg=>zl Y Y Y ty3) (zq Y (fun hg=>zi Y Y jA) ?_)))))))))))
   refine zq Y (fun hg=>zl Y Y Y ty3) (zq Y (fun hg=>kG Y Y Y) (zq Y (fun hg=>jg Y Y Y Y) (zu Y (jf Y Y Y Y) (qF (zk (zA Y (fun h2=>?_) (fun h2=>?_)))))))
   ·exfalso; simp at h2 h; omega
   ·refine zH (zk (zt ?_))
    refine qY (zf4 (k:=0) (m:=npt m) (rows:=(shL m p lvl false).map fun n=>[.v (.int .i64 n)]) [7] ?_ ?_ ?_) ?_
    ·show some (PO.row _) = some (PO.row _); simp [shL, shE, Function.comp_def, I]
    ·simp [shL]
    ·intro d hd; rw [List.mem_singleton] at hd; subst hd; rfl
    refine zx (zf (zI Y Y) (zf (zK Y Y jF (by exact zLb Y)) (zf (zK Y Y zah (by exact zLb Y)) (zf (zI Y Y) ?_))))
    refine zf (zB (av:=[_, _, _]) Y ⟨Y, Y, Y, trivial⟩ (f134 m p lvl false (shL m p lvl false) hm hp (by simp [shL]))) ?_
    refine zf (qG Y Y) (zf (zg Y Y) (zo (zN ?_)))
    exact ⟨.inr Y, ⟨_, Y, ⟨_, _, Y, AVle.refl _, ⟨_, _, Y, AVle.refl _, Y⟩⟩⟩⟩
end Ct
end Go.Av
end
