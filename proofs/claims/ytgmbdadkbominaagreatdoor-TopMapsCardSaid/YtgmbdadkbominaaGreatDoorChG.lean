import Derived.Test.YtgmbdadkbominaaGreatDoorChF
import Derived.Test.YtgmbdadkbominaaGreatDoorChD
import Derived.Test.YtgmbdadkbominaaGreatDoorChB
set_option linter.unusedVariables false
set_option linter.unusedSimpArgs false
section
namespace Go.Av.Pn.Ct
end Go.Av.Pn.Ct
namespace Go.Av.Ct
end Go.Av.Ct
namespace Go.Av.Pn
namespace Ct
open Go.Av.Ct
open Go.Av Go.Proofs
set_option maxRecDepth 100000
set_option maxHeartbeats 1000000
variable {G:Glob}
theorem ztk:(Tryz.prog.info? 391).bind (·.zero) = some (.agg #[.int .i64 0]):=by kernel_rfl
theorem zs3:tyIs Tryz.prog 391 true 1 = true:=by kernel_rfl
theorem zg0 (mem:List PO):zms Tryz.prog G 286 [.pp 0 1 0 0] none mem mem:=by
 refine zlu Tryz.func286 Y (by kernel_rfl) Y Y Y Y Y Y (fun gh=>?_)
 refine zF (zn (zf (zsl Y Y Tryz.underlying20) (zo (zA Y (fun h0=>?_) (fun h0=>?_)))))
 ·refine zx (zf (zg Y Y) (zM (zJ ?_)))
  exact ⟨.inl Y, Y, Y⟩
 ·exfalso; simp at h0
theorem zmp (x:Int):zms Tryz.prog G 286 [.pp 0 1 0 0] (some (.ifc 391 (.agg [ei x]))) [.row [[B false]]] [.row [[B false]]]:=by
 refine zlu Tryz.func286 Y (by kernel_rfl) Y Y Y Y Y Y (fun gh=>?_)
 refine zF (zn (zf (zr5 Y Y Tryz.underlying20) (zo (zA Y (fun h0=>?_) (fun h0=>?_)))))
 ·exfalso; simp at h0
 ·refine zn (zf (zm9 Y Y Tryz.underlying391 Y) (zf (zU Y Y Y) (zf (zU Y Y Y) (zo (zA Y (fun h1=>?_) (fun h1=>?_))))))
  ·refine zn ?_
   refine qP  Y Y Y Y Y Y Y ztk zs3 Y (by rfl) (zQ Y) Y ?_
   refine zo (zx ?_)
   refine qL Y (qw Y Y Y Y Y Y (qU Y) ty4 (by rfl) (by exact zLb Y)) ?_
   refine zM (zJ ?_)
   exact ⟨.inl Y, Y, Y⟩
  ·exfalso; simp at h1
theorem f165_out (w r:Int) (c:Bool) (gF:FuncId) (gcs:List AV) (se:Nat -> Bool) (p:Nat) (hw:1 <= w /\ w <= 6) (hr:1 <= r /\ r <= 5) (hset:∀ q:Nat, q < (w * r).toNat -> ACall Tryz.prog G gF ([ei (q:Int)] ++ gcs) (.v (.bool (se q)))) (hp:p < (w * r).toNat) (hs:se p = false):ACall Tryz.prog G 240 [.agg (vS w r), ei (p:Int), .fn gF [] gcs, .v (.bool c)] (.v (.bool false)):=by
 refine zdW Tryz.func240 Y (by kernel_rfl) Y ?_
 refine zn (zf (ql Y (zQ Y)) (qL Y (jr Y Y zv4 Y Y) (zo (zn (zf (vP Y) ?_)))))
 refine zfg Y Y Y Y ?_
 refine zo (zt (zn (zf (zI Y Y) (zf (zh Y Y) (zf (vH (av:=[_]) Y Y ⟨Y, trivial⟩ (hset p hp)) (zf (qJ Y Y) (zo (zA Y (fun h0=>?_) (fun h0=>?_)))))))))
 ·refine zn ?_
  refine qL Y (qw Y Y Y Y Y Y (qU Y) ty4 (by rfl) (by exact zLb Y)) ?_
  refine zo (zN (zP ?_))
  exact .inr ⟨9, 286, _, _, _, Y, Y, (zcp Y (wH Y Y Y Y ty4 Y (by exact AVle.refl _))), .inl ⟨.inr Y, zg0 _⟩⟩
 ·exfalso; simp [hs] at h0
theorem f165_ret (w r:Int) (c:Bool) (gF:FuncId) (gcs:List AV) (se:Nat -> Bool) (p:Nat) (hw:1 <= w /\ w <= 6) (hr:1 <= r /\ r <= 5) (hset:∀ q:Nat, q < (w * r).toNat -> ACall Tryz.prog G gF ([ei (q:Int)] ++ gcs) (.v (.bool (se q)))) (hp:p < (w * r).toNat) (hs:se p = true) (m2:List Nat) (ho:sch (fun p=>xX w r (p:Int)) (fun p=>nbs w r (p:Int) c) se ((w * r).toNat + 1) [] p = (m2, none)):ACall Tryz.prog G 240 [.agg (vS w r), ei (p:Int), .fn gF [] gcs, .v (.bool c)] (.v (.bool true)):=by
 refine zdW Tryz.func240 Y (by kernel_rfl) Y ?_
 refine zn (zf (ql Y (zQ Y)) (qL Y (jr Y Y zv4 Y Y) (zo (zn (zf (vP Y) ?_)))))
 refine zfg Y Y Y Y ?_
 refine zo (zt (zn (zf (zI Y Y) (zf (zh Y Y) (zf (vH (av:=[_]) Y Y ⟨Y, trivial⟩ (hset p hp)) (zf (qJ Y Y) (zo (zA Y (fun h0=>?_) (fun h0=>?_)))))))))
 ·exfalso; simp [hs] at h0
 ·refine zH (zk (zn (zf (zK Y Y yw (by exact zLb Y)) (zf (zh Y Y) (zf (zI Y Y) (zf (zh Y Y) (zf (zB (av:=[_, _, _, _]) Y ⟨Y, Y, Y, Y, trivial⟩ (znO w r c gF gcs se p hw hr hset hp m2 ho)) (zo (zt ?_)))))))))
  refine zx ?_
  refine qL Y (qw Y Y Y Y Y Y (qU Y) ty4 (by rfl) (by exact zLb Y)) ?_
  refine zo (zN ?_)
  exact .inr ⟨9, 286, _, _, _, Y, Y, (zcp Y (wH Y Y Y Y ty4 Y (by exact AVle.refl _))), .inl ⟨.inr Y, zg0 _⟩⟩
theorem f165_pan (w r:Int) (c:Bool) (gF:FuncId) (gcs:List AV) (se:Nat -> Bool) (p:Nat) (hw:1 <= w /\ w <= 6) (hr:1 <= r /\ r <= 5) (hset:∀ q:Nat, q < (w * r).toNat -> ACall Tryz.prog G gF ([ei (q:Int)] ++ gcs) (.v (.bool (se q)))) (hp:p < (w * r).toNat) (hs:se p = true) (m2:List Nat) (x:Nat) (ho:sch (fun p=>xX w r (p:Int)) (fun p=>nbs w r (p:Int) c) se ((w * r).toNat + 1) [] p = (m2, some x)):ACall Tryz.prog G 240 [.agg (vS w r), ei (p:Int), .fn gF [] gcs, .v (.bool c)] (.v (.bool false)):=by
 refine zdW Tryz.func240 Y (by kernel_rfl) Y ?_
 refine zn (zf (ql Y (zQ Y)) (qL Y (jr Y Y zv4 Y Y) (zo (zn (zf (vP Y) ?_)))))
 refine zfg Y Y Y Y ?_
 refine zo (zt (zn (zf (zI Y Y) (zf (zh Y Y) (zf (vH (av:=[_]) Y Y ⟨Y, trivial⟩ (hset p hp)) (zf (qJ Y Y) (zo (zA Y (fun h0=>?_) (fun h0=>?_)))))))))
 ·exfalso; simp [hs] at h0
 ·refine zH (zk (zn (zf (zK Y Y yw (by exact zLb Y)) (zf (zh Y Y) (zf (zI Y Y) (zf (zh Y Y) ?_))))))
  refine zqW (av:=[_, _, _, _]) Y Y ⟨Y, Y, Y, Y, trivial⟩ (znF w r c gF gcs se p hw hr hset hp m2 x ho) (fun u=>?_)
  exact .inr ⟨9, 286, _, _, _, Y, Y, (zcp Y (wH Y Y Y Y ty4 Y (by exact AVle.refl _))), .inr ⟨u, _, Y, List.mem_cons_self .., zmp _⟩⟩
end Ct
end Go.Av.Pn
end
section
namespace Go.Av
namespace Ct
open Go.Proofs
set_option maxRecDepth 100000
set_option maxHeartbeats 1000000
variable {G:Glob}
theorem jA:fldIs Tryz.prog 189 1 1 = true:=by kernel_rfl
theorem jC:fldIs Tryz.prog 189 2 2 = true:=by kernel_rfl
theorem jK:fldIs Tryz.prog 189 0 0 = true:=by kernel_rfl
def yQ (p lvl:Int) (hi:Bool):List AV:=[ei p, ei lvl, .v (.bool hi)]
def inS (vals:List Int) (lvl:Int) (hi:Bool) (q:Nat):Bool:=decide (lvl <= vals.getD q 0) == hi
def zgy (w r:Int) (vals:List Int) (lvl:Int) (hi:Bool) (p:Nat):Bool:=inS vals lvl hi p && (Pn.Ct.sch (fun p=>xX w r (p:Int)) (fun p=>nbs w r (p:Int) (!hi)) (inS vals lvl hi) ((w * r).toNat + 1) [] p).2.isNone
theorem f165 (w r:Int) (c:Bool) (gF:FuncId) (gcs:List AV) (se:Nat -> Bool) (p:Nat) (hw:1 <= w /\ w <= 6) (hr:1 <= r /\ r <= 5) (hset:∀ q:Nat, q < (w * r).toNat -> ACall Tryz.prog G gF ([ei (q:Int)] ++ gcs) (.v (.bool (se q)))) (hp:p < (w * r).toNat):
  ACall Tryz.prog G 240 [.agg (vS w r), ei (p:Int), .fn gF [] gcs, .v (.bool c)] (.v (.bool (se p && (Pn.Ct.sch (fun p=>xX w r (p:Int)) (fun p=>nbs w r (p:Int) c) se ((w * r).toNat + 1) [] p).2.isNone))):=by
 cases hs:se p with
 | false=>exact Pn.Ct.f165_out w r c gF gcs se p hw hr hset hp hs
 | true=>
  cases ho:Pn.Ct.sch (fun p=>xX w r (p:Int)) (fun p=>nbs w r (p:Int) c) se ((w * r).toNat + 1) [] p with
  | mk m2 o=>
   cases o with
   | none=>exact Pn.Ct.f165_ret w r c gF gcs se p hw hr hset hp hs m2 ho
   | some x=>exact Pn.Ct.f165_pan w r c gF gcs se p hw hr hset hp hs m2 x ho
theorem f166 (vals:List Int) (pt lvl:Int) (hi:Bool) (q:Nat) (hq:q < vals.length) (hl:vals.length <= 1000):ACall Tryz.prog G 241 [ei (q:Int), .ptr [eInts vals], .ptr (yQ pt lvl hi)] (.v (.bool (inS vals lvl hi q))):=by
 refine zO Tryz.func241 Y (by kernel_rfl) Y ?_
 refine zn (zf (zg Y Y) (zo (zt ?_)))
 refine qp mixed (by kernel_rfl) Y ?_
 refine zu Y (zl Y Y Y jH) (zu Y (zh Y Y) (zu Y (zD Y Y Y jV (by omega) (jM hq) qH) (zu Y (zl Y Y Y ty3) (zu Y (zi Y Y jA) (zu Y (zl Y Y Y ty3) (zu Y (kG Y Y Y) (zu Y (zi Y Y jC) (zu Y (zl Y Y Y ty4) (zu Y (zhY Y Y Y Tryz.underlying4) (zu Y (zg Y Y) (qF ?_)))))))))))
 refine zk (zN ?_)
 exact ⟨.inr Y, AVle.of (by unfold inS; rw [getD_at hq])⟩
theorem f134 (m:Mp) (p:Nat) (lvl:Int) (hi:Bool) (vals:List Int) (hm:okM m) (hp:p < npt m) (hv:vals.length = npt m):ACall Tryz.prog G 188 [.agg (qB m), .agg (yQ (p:Int) lvl hi), eInts vals] (.v (.bool (zgy m.wide m.rows vals lvl hi p))):=by
 have hn:=npt_bd hm
 have ho:=hm
 obtain ⟨m1, m2, m3, m4, m5, m6, m7, m8⟩:=ho
 have har:=area m1 m2 m3 m4
 have hN:(m.wide * m.rows).toNat = npt m:=by omega
 have h165:=f165 (G:=G) m.wide m.rows (!hi) 241 [.ptr [eInts vals], .ptr (yQ (p:Int) lvl hi)] (inS vals lvl hi) p (by omega) (by omega) (fun q hq=>f166 vals (p:Int) lvl hi q (by omega) (by omega)) (by omega)
 refine zO Tryz.func188 Y (by kernel_rfl) Y ?_
 refine zn (zf (ql Y (zQ Y)) (zf (ql Y (zQ Y)) (zf (ql (cs:=[_]) Y (zjo Y)) (zf (zg Y Y) (zo (zn (zf (zi Y Y yI) (zf (zK Y Y yw (by exact zLb Y)) ?_))))))))
 refine zf (zi Y Y jK) (zf (zl Y Y Y ty3) (zf (wC (fs:=[]) (cs:=[_, _]) Y Y Y) (zf (zi Y Y jC) (zf (zl Y Y Y ty4) (zf (qJ Y Y) (zf (zB (av:=[_, _, _, _]) Y ⟨Y, Y, Y, Y, trivial⟩ h165) (zf (zg Y Y) (zo (zN ?_)))))))))
 exact ⟨.inr Y, AVle.refl _⟩
theorem f133 (m:Mp) (p lvl:Int) (hi:Bool) (hm:okM m):ACall Tryz.prog G 186 [.agg (qB m), .ptr (yQ p lvl hi), .ptr (eMp m)] (.v (.bool (inB p 0 (m.wide * m.rows - 1) && inB lvl 1 99999))):=by
 have hn:=npt_bd hm
 have ho:=hm
 obtain ⟨m1, m2, m3, m4, m5, m6, m7, m8⟩:=ho
 have har:=area m1 m2 m3 m4
 refine zO Tryz.func186 Y (by kernel_rfl) Y ?_
 refine zn (zf (ql Y (zQ Y)) (zf (zg Y Y) (zo (zn (zf (zi Y Y jK) (zf (zl Y Y Y ty3) (zf (zi Y Y yE) (zf (zl Y Y Y ty3) ?_))))))))
 refine zf (zi Y Y y9) (zf (zl Y Y Y ty3) (zf (ya Y Y Y ⟨by omega, by omega⟩) (zf (vN Y Y Y ⟨by omega, by omega⟩) (zf (zB (av:=[_, _, _]) Y ⟨Y, Y, Y, trivial⟩ (f68 _ _ _)) (zf (zh Y Y) (zC Y (fun hg=>zi Y Y jA) (zC Y (fun hg=>zl Y (if_pos hg) Y ty3) (zC Y (fun hg=>zB (av:=[_, _, _]) Y ⟨((if_pos hg)), Y, Y, trivial⟩ (f68 _ _ _)) (zf (jg Y Y Y Y) (zf (zg Y Y) (zM ?_)))))))))))
 refine zk (zN ?_)
 exact ⟨.inr Y, AVle.refl _⟩
theorem zow (m:Mp) (p lvl:Int) (hi:Bool) (hm:okM m) (h:(inB p 0 (m.wide * m.rows - 1) && inB lvl 1 99999) = true) (hc:y7 m = none):ACall Tryz.prog G 89 [.agg (eMp m), .agg (yQ p lvl hi)] (.tup [.agg (qB m), ei 0]):=by
 have h133:=f133 (G:=G) m p lvl hi hm
 rw [h] at h133
 refine zO Tryz.func89 Y (by kernel_rfl) Y ?_
 refine zn (zf (ql Y (zQ Y)) (zf (ql Y (zQ Y)) (qL Y (jr Y Y zex Y Y) (zf (zg Y Y) (zo (zn (zf (zK Y Y kN (by exact zLb Y)) (zf (wC (fs:=[]) (cs:=[_, _]) Y Y Y) ?_))))))))
 refine zf (zB (av:=[_, _]) Y ⟨Y, Y, trivial⟩ (zpf m hm 186 [] [.ptr (yQ p lvl hi), .ptr (eMp m)] h133 hc)) (zf (zU Y Y Y) (zf (zU Y Y Y) ?_))
 refine qL Y (qw Y Y Y Y Y Y (zQ Y) jF (by rfl) (by exact zLb Y)) ?_
 refine zf (zg Y Y) (zo (zN ?_))
 exact ⟨.inr Y, ⟨_, Y, ⟨_, _, Y, (jd Y Y Y Y jF Y ⟨_, _, Y, AVle.refl _, ⟨_, _, Y, AVle.refl _, ⟨_, _, Y, AVle.refl _, ⟨_, _, Y, AVle.refl _, ⟨_, _, Y, AVle.refl _, ⟨_, _, Y, AVle.refl _, Y⟩⟩⟩⟩⟩⟩), ⟨_, _, Y, AVle.refl _, Y⟩⟩⟩⟩
end Ct
end Go.Av
end
