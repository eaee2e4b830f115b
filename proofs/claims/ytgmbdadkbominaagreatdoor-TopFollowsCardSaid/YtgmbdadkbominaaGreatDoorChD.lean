import Derived.Test.YtgmbdadkbominaaGreatDoorChC
import Derived.Test.YtgmbdadkbominaaGreatDoorChB
import Derived.Laws.StructEq
import Derived.Tactics2
import Derived.StillTactics
set_option linter.unusedVariables false
set_option linter.unusedSimpArgs false
section
namespace Go.Av
namespace Ct
open Go.Proofs
set_option maxRecDepth 100000
set_option maxHeartbeats 1000000
variable {G:Glob}
def zdD (m:Mp) (f:Fld) (i q:Nat):Bool:=decide (m.slope < vC (f.vals.getD i 0) (f.vals.getD q 0))
theorem zih {a b:Int}:vC a b = vC b a:=by unfold vC; omega
theorem xy (w a b:Int):dist w a b = dist w b a:=by unfold dist; rw [zih, @zih (a % w)]
theorem zhg (w a:Int):dist w a a = 0:=by unfold dist vC; simp
theorem zhb {m:Mp} {f:Fld}:zbf m f = true ↔ ∀ i < f.vals.length, ∀ j < i, dist f.wide (i:Int) (j:Int) = 1 -> zdD m f i j = false:=by
 unfold zbf zcK zdD
 rw [List.all_eq_true]
 constructor
 ·intro h i hi j hj hd
  have:=List.all_eq_true.1 (h i (List.mem_range.2 hi)) j (List.mem_range.2 hj)
  simpa [hd] using this
 ·intro h i hi
  rw [List.all_eq_true]
  intro j hj
  have:=h i (List.mem_range.1 hi) j (List.mem_range.1 hj)
  by_cases hd:dist f.wide (i:Int) (j:Int) = 1
  ·have:=this hd; simpa [hd] using this
  ·simp [hd]
theorem zqr {m:Mp} {k:Nat} (h1:k < (los m).length) (h2:k < (his m).length):(List.range k).map (bdE m) ++ [[I (los m)[k], I (his m)[k]]] = (List.range (k + 1)).map (bdE m):=by
 rw [zoh h1, zof h2]; exact yx (bdE m) k
theorem f50_ok (m:Mp) (hm:okM m) (hc:y7 m = none):ACall Tryz.prog G 29 [.agg (eMp m)] (.tup [eSpans (bds m), ei 0]):=by
 have hn:=npt_bd hm
 refine zO Tryz.func29 Y (by kernel_rfl) Y ?_
 refine zn (zf (ql Y (zQ Y)) (zf (zg Y Y) (zf (zg Y Y) (zo (zn (zf (zK Y Y kN (by exact zLb Y)) (zf (zB (av:=[_, _]) Y ⟨Y, Y, trivial⟩ (zpf m hm 87 [] [] (f63 m) hc)) (zf (zI Y Y) ?_))))))))
 refine zf (zU Y Y Y) (zf (zU Y Y Y) ?_)
 refine qP  Y Y Y Y Y Y Y zex jF Y (by rfl) (zQ Y) Y ?_
 refine zf (zg Y Y) (zo (zt (zn (zf (zh Y Y) (zf (wE Y Y Y) (zo (zA Y (fun h0=>?_) (fun h0=>?_))))))))
 ·exfalso; simp at h0
 ·refine zH (zk (zn (zf (zK Y Y jF (by exact zLb Y)) (zf (zB (av:=[_]) Y ⟨Y, trivial⟩ (f64 m hm)) ?_))))
  refine qP  Y Y Y Y Y Y Y zbX zby Y (by rfl) (zQ Y) Y ?_
  refine zo (zn (zf (zg Y Y) (zo (zt (zn (zf (qc Y Y Y ji (by omega) (by omega)) (zf (zl Y Y Y jH) ?_)))))))
  refine zf (qA Y Y Y Tryz.underlying24) (zf (zh Y Y) (zo (zF ?_)))
  refine qY (zaR 7 Y) ?_
  refine qm (ι:={ k:Nat // k <= npt m }) (fun k=>⟨Tryz.f29.ntmps, frL [(6, .pub (.ptr [eInts (los m), eInts (his m)])), (7, .psl 0 k.1), (21, I (npt m:Int)), (22, I (k.1:Int))], [.row ((List.range k.1).map (bdE m))]⟩) (fun k=>npt m - k.1) (⟨0, by omega⟩) ?_ ?_
  ·exact zy _ ⟨Y, Y, (congrArg (fun x:Nat=>I (x:Int)) (by simp [los])), Y, trivial⟩ (Y)
  ·rintro ⟨k, hk⟩
   dsimp only
   refine zn (zf (qx Y Y Y) (zo (zt (zA Y (fun h1=>?_) (fun h1=>?_)))))
   ·have hlt:k < npt m:=by simpa using h1
    have hl1:k < (los m).length:=by rw [wU]; exact hlt
    have hl2:k < (his m).length:=by rw [wS]; exact hlt
    have hb1:=zsc hm hl1
    have hb2:=zrG hm hl2
    refine zH (zk (zt (zF (zn (zf (zh Y Y) (zf (zg Y Y) (zo ?_)))))))
    refine zfD (fun _=>True) (fun k=>match k with | 1=>.stable | 2=>.stable | 3=>.stable | 4=>.stable | 5=>.stable | 6=>.stable | 7=>.stable | 8=>.stable | 9=>.stable | 10=>.stable | 11=>.stable | 13=>.writes | 14=>.stable | _=>.here) mixed (by kernel_rfl) rfl (by kernel_rfl) trivial ?_
    refine znG Y Y (jq Y Y) (jv Y Y (fun m hm=>qc Y Y Y ji (by omega) (by omega)) (jv Y Y (fun m hm=>zl Y Y Y jH) (jv Y Y (fun m hm=>zh Y Y) (jv Y Y (fun m hm=>zD Y Y Y jV (by omega) (jM hl1) qH) (jv Y Y (fun m hm=>zl Y Y Y ty3) (jv Y Y (fun m hm=>qc Y Y Y ji (by omega) (by omega)) (jv Y Y (fun m hm=>zl Y Y Y jH) (jv Y Y (fun m hm=>zh Y Y) (jv Y Y (fun m hm=>zD Y Y Y jV (by omega) (jM hl2) qH) (jv Y Y (fun m hm=>zl Y Y Y ty3) ?_))))))))))
    refine jv Y Y (fun m hm=>yl (cs:=[_, _]) Y ztW Y ⟨_, _, Y, (qU Y), ⟨_, _, Y, (qU Y), Y⟩⟩ (by rfl) (by simp [ofV])) ?_
    refine znG Y Y (qy (size:=2) (rows:=[[_, _]]) Y Tryz.underlying23 ztN Y (by decide) Y (by decide) ⟨_, _, Y, (zQ Y), Y⟩ (by rfl) (by simp [ofV]) Y (by simp)) ?_
    refine zpt Y Y (zbg Y Y Y (by simp) Y ztM (znp fun _=>rfl) (by simp) (by simp; omega) (by unfold maxLen; simp; omega)) trivial ?_
    refine jv Y Y (fun m hm=>jm Y Y) (zfa (zJ (zk (zx (zf (zW Y Y Y ⟨by omega, by omega⟩) (zf (zh Y Y) (zM ?_)))))))
    exact ⟨⟨k + 1, by omega⟩, by dsimp only; omega, zy _ ⟨Y, Y, Y, Y, trivial⟩ (congrArg (fun z=>[PO.row z]) (zqr hl1 hl2))⟩
   ·have hge:npt m <= k:=by simpa using h1
    have hk2:k = npt m:=by omega
    subst hk2
    refine qg (zS (zS (qh (zk (zn (zf (jq Y Y) (zf (jm Y Y) (zf (zg Y Y) (zo ?_)))))))))
    refine zN ?_
    exact ⟨.inr Y, ⟨_, Y, ⟨_, _, Y, ⟨((bds m).map fun s=>[AV.v (.int .i64 s.1), AV.v (.int .i64 s.2)]), by show some (PO.row _) = some (PO.row _); simp [bds, bdE, Function.comp_def], by simp [bds], Y⟩, ⟨_, _, Y, AVle.refl _, Y⟩⟩⟩⟩
end Ct
end Go.Av
end
section
namespace Go.Av
namespace Ct
open Go.Proofs
def dN (W i j:Nat):Nat:=((i / W - j / W) + (j / W - i / W)) + ((i % W - j % W) + (j % W - i % W))
theorem zjh (W i j:Nat):dist (W:Int) (i:Int) (j:Int) = (dN W i j:Int):=by
 unfold dist dN vC
 rw [← Int.natCast_ediv, ← Int.natCast_ediv, ← Int.natCast_emod, ← Int.natCast_emod]
 generalize i / W = a; generalize j / W = b; generalize i % W = c; generalize j % W = d
 omega
theorem zqq {W i j:Nat} (h:dN W i j = 0):i = j:=by
 unfold dN at h
 have h1:i / W = j / W:=by
  generalize i / W = a at *; generalize j / W = b at *; generalize i % W = c at *; generalize j % W = d at *
  omega
 have h2:i % W = j % W:=by
  generalize i / W = a at *; generalize j / W = b at *; generalize i % W = c at *; generalize j % W = d at *
  omega
 rw [← Nat.div_add_mod i W, ← Nat.div_add_mod j W, h1, h2]
theorem zqF {W R i j:Nat} (hW:0 < W) (hi:i < W * R) (hj:j < W * R) (h:dN W i j ≠ 0):∃ k, k < W * R /\ dN W i k = 1 /\ dN W k j + 1 = dN W i j:=by
 have hqi:i / W < R:=Nat.div_lt_of_lt_mul hi
 have hqj:j / W < R:=Nat.div_lt_of_lt_mul hj
 have hri:=Nat.mod_lt i hW
 have hrj:=Nat.mod_lt j hW
 have mk:∀ q r, q < R -> r < W -> W * q + r < W * R /\ (W * q + r) / W = q /\ (W * q + r) % W = r:=fun q r hq hr=>by
  refine ⟨?_, ?_, ?_⟩
  ·have:W * (q + 1) <= W * R:=Nat.mul_le_mul_left _ hq
   rw [Nat.mul_succ] at this; omega
  ·rw [Nat.mul_add_div hW, Nat.div_eq_of_lt hr]; omega
  ·rw [Nat.mul_add_mod, Nat.mod_eq_of_lt hr]
 unfold dN at h ⊢
 generalize i / W = qi at *
 generalize j / W = qj at *
 generalize i % W = ri at *
 generalize j % W = rj at *
 by_cases h1:qi < qj
 ·obtain ⟨a1, a2, a3⟩:=mk (qi + 1) ri (by omega) hri
  exact ⟨_, a1, by rw [a2, a3]; omega, by rw [a2, a3]; omega⟩
 ·by_cases h2:qj < qi
  ·obtain ⟨a1, a2, a3⟩:=mk (qi - 1) ri (by omega) hri
   exact ⟨_, a1, by rw [a2, a3]; omega, by rw [a2, a3]; omega⟩
  ·by_cases h3:ri < rj
   ·obtain ⟨a1, a2, a3⟩:=mk qi (ri + 1) hqi (by omega)
    exact ⟨_, a1, by rw [a2, a3]; omega, by rw [a2, a3]; omega⟩
   ·obtain ⟨a1, a2, a3⟩:=mk qi (ri - 1) hqi (by omega)
    exact ⟨_, a1, by rw [a2, a3]; omega, by rw [a2, a3]; omega⟩
theorem lip {V:Nat -> Int} {s:Int} {W R:Nat} (hW:0 < W) (h:∀ i j, i < W * R -> j < W * R -> dN W i j = 1 -> V i - V j <= s):
  ∀ (d i j:Nat), dN W i j = d -> i < W * R -> j < W * R -> V i - V j <= s * (d:Int)
 | 0, i, j, hd, _, _=>by rw [zqq hd]; simp
 | d + 1, i, j, hd, hi, hj=>by
  obtain ⟨k, k1, k2, k3⟩:=zqF hW hi hj (by omega)
  have h1:=h i k hi k1 k2
  have h2:=lip hW h d k j (by omega) k1 hj
  have:s * ((d + 1:Nat):Int) = s * (d:Int) + s:=by push_cast; rw [Int.mul_add]; omega
  omega
def vAt (f:Fld) (i:Nat):Int:=f.vals.getD i 0
structure FitsM (m:Mp) (f:Fld):Prop where
 wide:f.wide = m.wide
 len:(f.vals.length:Int) = m.wide * m.rows
 near:∀ i j, i < f.vals.length -> j < f.vals.length -> dist m.wide (i:Int) (j:Int) = 1 -> vAt f i - vAt f j <= m.slope
 st:∀ s ∈ m.st, s.lo <= vAt f s.pt.toNat /\ vAt f s.pt.toNat <= s.hi
theorem fitsB_iff {m:Mp} {f:Fld}:zaW m f = true ↔ FitsM m f:=by
 unfold zaW
 simp only[zLa]
 rw [zhb]
 unfold zbw zfr
 simp only[zLa, beq_iff_eq, List.all_eq_true]
 constructor
 ·rintro ⟨⟨h1, h2⟩, h3, h4⟩
  have near:∀ i j, i < f.vals.length -> j < i -> dist m.wide (i:Int) (j:Int) = 1 -> vC (vAt f i) (vAt f j) <= m.slope:=fun i j hi hj hd=>by
   have:=h3 i hi j hj (by rw [h1]; exact hd)
   unfold zdD at this
   simpa [vAt] using this
  refine ⟨h1, h2, fun i j hi hj hd=>?_, fun s hs=>inB_iff.1 (h4 s hs)⟩
  rcases Nat.lt_trichotomy j i with h | h | h
  ·have:=near i j hi h hd
   unfold vC at this; omega
  ·subst h; rw [zhg] at hd; omega
  ·have:=near j i hj h (by rw [xy]; exact hd)
   unfold vC at this; omega
 ·rintro ⟨h1, h2, h3, h4⟩
  refine ⟨⟨h1, h2⟩, fun i hi j hj hd=>?_, fun s hs=>inB_iff.2 (h4 s hs)⟩
  rw [h1] at hd
  have a:=h3 i j hi (by omega) hd
  have b:=h3 j i (by omega) hi (by rw [xy]; exact hd)
  unfold zdD
  simp only[decide_eq_false_iff_not]
  show ¬ m.slope < vC (vAt f i) (vAt f j)
  unfold vC; omega
theorem okM.W {m:Mp} (hm:okM m):∃ W R:Nat, m.wide = (W:Int) /\ m.rows = (R:Int) /\ 0 < W /\ 0 < R /\ W <= 6 /\ R <= 5:=by
 obtain ⟨m1, m2, m3, m4, _⟩:=hm
 exact ⟨m.wide.toNat, m.rows.toNat, by omega, by omega, by omega, by omega, by omega, by omega⟩
theorem FitsM.lip {m:Mp} {f:Fld} (h:FitsM m f) (hm:okM m) {i j:Nat} (hi:i < f.vals.length) (hj:j < f.vals.length):vAt f i - vAt f j <= m.slope * dist m.wide (i:Int) (j:Int):=by
 obtain ⟨W, R, eW, eR, hW, _⟩:=hm.W
 have hlen:f.vals.length = W * R:=by have:=h.len; rw [eW, eR] at this; exact_mod_cast this
 have hn:=h.near
 rw [eW] at hn ⊢
 rw [zjh]
 rw [hlen] at hi hj hn
 exact Go.Av.Ct.lip hW (fun i j hi hj hd=>hn i j hi hj (by rw [zjh, hd]; rfl)) _ i j Y hi hj
theorem FitsM.pt {m:Mp} {f:Fld} (h:FitsM m f) (hm:okM m) {s:Stn} (hs:s ∈ m.st):∃ p:Nat, s.pt = (p:Int) /\ p < f.vals.length:=by
 have:=hm.2.2.2.2.2.2.2 s hs
 exact ⟨s.pt.toNat, by omega, by have:=h.len; omega⟩
theorem FitsM.clash {m:Mp} {f:Fld} (h:FitsM m f) (hm:okM m):y7 m = none:=by
 refine zb1 fun a ha b hb _=>?_
 rw [zf7 ha hb]
 obtain ⟨p, ep, hp⟩:=h.pt hm (List.getElem_mem ha)
 obtain ⟨q, eq, hq⟩:=h.pt hm (List.getElem_mem hb)
 have h1:=h.st _ (List.getElem_mem ha)
 have h2:=h.st _ (List.getElem_mem hb)
 have l1:=h.lip hm hp hq
 have l2:=h.lip hm hq hp
 rw [xy] at l2
 unfold apartB
 rw [ep, eq] at *
 simp only[Int.toNat_natCast] at h1 h2
 simp only[Bool.or_eq_false_iff, decide_eq_false_iff_not]
 omega
theorem FitsM.lo {m:Mp} {f:Fld} (h:FitsM m f) (hm:okM m) {i:Nat} (hi:i < f.vals.length) (hv:0 <= vAt f i):loOf m.wide m.slope (i:Int) m.st <= vAt f i:=
 zaK _ (fun b=>b <= vAt f i) m.st 0 hv fun b s hs hb=>by
  obtain ⟨p, ep, hp⟩:=h.pt hm hs
  have h1:=h.st _ hs
  have l1:=h.lip hm hp hi
  rw [xy] at l1
  rw [ep] at *
  simp only[Int.toNat_natCast] at h1
  omega
theorem FitsM.hi {m:Mp} {f:Fld} (h:FitsM m f) (hm:okM m) {i:Nat} (hi:i < f.vals.length) (hv:vAt f i <= 99999):vAt f i <= hiOf m.wide m.slope (i:Int) m.st:=
 zaK _ (fun b=>vAt f i <= b) m.st 99999 hv fun b s hs hb=>by
  obtain ⟨p, ep, hp⟩:=h.pt hm hs
  have h1:=h.st _ hs
  have l1:=h.lip hm hi hp
  rw [ep] at *
  simp only[Int.toNat_natCast] at h1
  omega
section
variable {m:Mp}
end
end Ct
end Go.Av
end
section
namespace Go.Av
namespace Ct
open Go.Proofs
set_option maxRecDepth 100000
set_option maxHeartbeats 1000000
variable {G:Glob}
end Ct
end Go.Av
end
