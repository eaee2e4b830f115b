import Derived.Test.YtgmbdadkbominaaGreatDoorChA
import Derived.Test.YtgmbdadkbominaaGreatDoorChX
set_option linter.unusedVariables false
set_option linter.unusedSimpArgs false
section
namespace Go.Av
namespace Tp
open Go.Proofs
set_option maxRecDepth 100000
set_option maxHeartbeats 1000000
variable {G:Glob}
theorem mixed:Tryz.prog.follows .mixedOrders = true:=by kernel_rfl
theorem zlE:kw Tryz.prog 74 1 = true:=by kernel_rfl
theorem zqZ:tyIs Tryz.prog 81 false 1 = true:=by kernel_rfl
theorem zta:kw Tryz.prog 81 1 = true:=by kernel_rfl
theorem ty9:tyIs Tryz.prog 9 false 1 = true:=by kernel_rfl
theorem zpN:fldIs Tryz.prog 69 0 0 = true:=by kernel_rfl
theorem ty3:tyIs Tryz.prog 3 false 1 = true:=by kernel_rfl
theorem zqL:fldIs Tryz.prog 69 1 1 = true:=by kernel_rfl
structure Tw where
 pt:Int
 rest:List Int
 cps:List (List (List UInt8))
def eTw (t:Tw):List AV:=[.v (.int .i64 t.pt), Wr.eInts t.rest, Wr.eCps t.cps]
theorem zcH {l:List Tw} {k:Nat} (h:k < l.length):(l.map eTw)[k]? = some (eTw l[k]):=by simp [h]
theorem zat {l:List Tw}:∀ q ∈ l.map eTw, q.length = 3:=fun q hq=>by
 obtain ⟨t, _, rfl⟩:=List.mem_map.1 hq; rfl
theorem zlU {l:List (List (List UInt8))} {k:Nat} (h:k < l.length):(l.map fun g=>[Wr.eStrs g])[k]? = some [Wr.eStrs l[k]]:=by simp [h]
theorem zil {l:List (List (List UInt8))}:∀ q ∈ l.map (fun g=>[Wr.eStrs g]), q.length = 1:=fun q hq=>by
 obtain ⟨t, _, rfl⟩:=List.mem_map.1 hq; rfl
theorem ztb {l:List (List UInt8)} {k:Nat} (h:k < l.length):(l.map fun s=>[eS s])[k]? = some [eS l[k]]:=by simp [h]
theorem st_len {l:List (List UInt8)}:∀ q ∈ l.map (fun s=>[eS s]), q.length = 1:=fun q hq=>by
 obtain ⟨t, _, rfl⟩:=List.mem_map.1 hq; rfl
def brG (g:List (List UInt8)):Bool:=decide (g.length <= 5) && g.all fun s=>decide (s.length <= 8)
def zdZ (l:List (List (List UInt8))):Bool:=(l.take 4).all brG && decide (l.length <= 3)
theorem znQ {α:Type} {p:α -> Bool} {l:List α} {k:Nat} (h:(l.take k).all p = true) (hk:k < l.length) (hp:p l[k] = true):(l.take (k + 1)).all p = true:=by
 rw [List.take_succ_eq_append_getElem hk, List.all_append, h]; simp [hp]
theorem zjv {l:List (List (List UInt8))} {k:Nat} (hk:k < l.length) (h4:k < 4) (h:brG l[k] = false):zdZ l = false:=by
 unfold zdZ
 rw [Bool.and_eq_false_iff]
 refine .inl (List.all_eq_false.2 ⟨l[k], ?_, by simp [h]⟩)
 rw [List.mem_iff_getElem?]
 exact ⟨k, by rw [List.getElem?_take, if_pos h4, List.getElem?_eq_getElem hk]⟩
theorem ziu {l:List (List (List UInt8))} (h:zdZ l = true):l.length <= 3 /\ ∀ g ∈ l, g.length <= 5:=by
 unfold zdZ at h
 rw [zLa, decide_eq_true_eq] at h
 refine ⟨h.2, fun g hg=>?_⟩
 have h2:=h.1
 rw [List.take_of_length_le (by omega), List.all_eq_true] at h2
 have:=h2 g hg
 unfold brG at this
 simp at this; exact this.1
theorem f22 (l:List (List (List UInt8))):ACall Tryz.prog G 22 [Wr.eCps l] (.v (.bool (zdZ l))):=by
 refine zO Tryz.func22 Y (by kernel_rfl) Y ?_
 refine zn (zf (zg Y Y) (zo (zt (zn (zf (zg Y Y) (zo (zF ?_)))))))
 refine qm (ι:={ k:Nat // k <= l.length /\ k <= 4 /\ (l.take k).all brG = true }) (fun k=>⟨Tryz.f22.ntmps, frL [(0, .pub (Wr.eCps l)), (3, I (k.1:Int))], []⟩) (fun k=>l.length - k.1) (⟨0, by simp⟩) ?_ ?_
 ·exact zy _ ⟨Y, Y, trivial⟩ (Y)
 ·rintro ⟨k, hk⟩
  dsimp only
  refine zt (zn (zf (zh Y Y) (zf (zI Y Y) (zf (qA Y Y Y Tryz.underlying74) (zf (qx Y Y Y) (zf (zh Y Y) (zC Y (fun hg=>zh Y Y) (zC Y (fun hg=>qx Y (if_pos hg) Y) (zf (jg Y Y Y Y) (zM ?_))))))))))
  refine zk (zA Y (fun h0=>?_) (fun h0=>?_))
  ·have hlt:k < l.length /\ k < 4:=by have:=h0; simp at this; omega
   obtain ⟨hlt, hk4⟩:=hlt
   refine zH (zk (zt (zF (zt (zn (zf (zI Y Y) (zf (zh Y Y) (zf (zD Y Y Y zlE (by omega) (zlU hlt) zil) (zf (zl Y Y Y zqZ) (zf (qA Y Y Y Tryz.underlying81) ?_))))))))))
   refine zf (jB Y Y Y) (zo (zA Y (fun h1=>?_) (fun h1=>?_)))
   ·have hno:brG l[k] = false:=by unfold brG; simp at h1; rw [Bool.and_eq_false_iff]; left; simp; omega
    refine zn (zf (zg Y Y) (zo (zN (zP (zZ (zP (zP (zZ (zP ?_)))))))))
    exact ⟨.inr Y, AVle.of (by rw [zjv hlt hk4 hno])⟩
   ·have hg5:l[k].length <= 5:=by simp at h1; omega
    refine zH (zk (zn (zf (zg Y Y) (zo (zF ?_)))))
    refine qm (ι:={ j:Nat // j <= l[k].length /\ (l[k].take j).all (fun s=>decide (s.length <= 8)) = true }) (fun j=>⟨Tryz.f22.ntmps, frL [(0, .pub (Wr.eCps l)), (3, I (k:Int)), (4, I (j.1:Int))], []⟩) (fun j=>l[k].length - j.1) (⟨0, by simp⟩) ?_ ?_
    ·exact zy _ ⟨Y, Y, Y, trivial⟩ (Y)
    ·rintro ⟨j, hj⟩
     dsimp only
     refine zt (zn (zf (zh Y Y) (zf (zI Y Y) (zf (zh Y Y) (zf (zD Y Y Y zlE (by omega) (zlU hlt) zil) (zf (zl Y Y Y zqZ) (zf (qA Y Y Y Tryz.underlying81) (zf (qx Y Y Y) (zo (zA Y (fun h2=>?_) (fun h2=>?_)))))))))))
     ·have hls:j < l[k].length:=by simpa [Wr.eStrs] using h2
      refine zH (zk (zt (zF (zn (zf (zI Y Y) (zf (zh Y Y) (zf (zD Y Y Y zlE (by omega) (zlU hlt) zil) (zf (zl Y Y Y zqZ) (zf (zh Y Y) (zf (zD Y Y Y zta (by omega) (ztb hls) st_len) ?_))))))))))
      refine zf (zl Y Y Y ty9) (zf (zfi Y Y Tryz.underlying9) (zf (jB Y Y Y) (zo (zA Y (fun h3=>?_) (fun h3=>?_)))))
      ·have hno:brG l[k] = false:=by unfold brG; rw [Bool.and_eq_false_iff]; right; refine List.all_eq_false.2 ⟨l[k][j], List.getElem_mem hls, ?_⟩; simp at h3; simp; omega
       refine zn (zf (zg Y Y) (zo (zN (zZ (zP (zP (zZ (zZ (zP ?_)))))))))
       refine zP (zZ (zP ?_))
       exact ⟨.inr Y, AVle.of (by rw [zjv hlt hk4 hno])⟩
      ·have hs8:l[k][j].length <= 8:=by simp at h3; omega
       refine zH (zJ (zk (zx (zf (zh Y Y) (zf (zW Y Y Y ⟨by omega, by omega⟩) (zf (zg Y Y) (zM ?_)))))))
       exact ⟨⟨j + 1, by omega, znQ hj.2 hls (by simp; exact hs8)⟩, by dsimp only; omega, zy _ ⟨Y, Y, Y, trivial⟩ (Y)⟩
     ·have hje:l[k].length <= j:=by simpa [Wr.eStrs] using h2
      refine qg (zS (zS (qh (zJ (zk (zx (zf (zh Y Y) (zf (zW Y Y Y ⟨by omega, by omega⟩) (zf (zg Y Y) (zM ?_))))))))))
      exact ⟨⟨k + 1, by omega, by omega, znQ hk.2.2 hlt (by unfold brG; rw [decide_eq_true hg5, Bool.true_and]; have:=hj.2; rwa [List.take_of_length_le (by omega)] at this)⟩, by dsimp only; omega, zy _ ⟨Y, Y, trivial⟩ (Y)⟩
  ·have hge:4 <= k ∨ l.length <= k:=by have:=h0; simp at this; omega
   refine qg (zS (zS (qh (zk (zn (zf (zI Y Y) (zf (qA Y Y Y Tryz.underlying74) (zf (zbt Y Y Y) (zf (zg Y Y) (zM ?_))))))))))
   refine zk (zN ?_)
   exact ⟨.inr Y, AVle.of (by have h2:=hk.2.2; unfold zdZ; rw [show l.take 4 = l.take k by exact hge.elim (fun h=>by rw [show k = 4 by omega]) (fun h=>by rw [List.take_of_length_le h, List.take_of_length_le (by omega)])]; rw [h2]; simp; omega)⟩
theorem zua (w r s x:Int) (h1:1 <= w /\ w <= 6) (h2:1 <= r /\ r <= 5):ACall Tryz.prog G 20 [.agg [.v (.int .i64 w), .v (.int .i64 r), .v (.int .i64 s), .top], .v (.int .i64 x)] (.v (.bool (Ct.inB x 0 (w * r - 1)))):=by
 have h3:1 * 1 <= w * r:=Int.mul_le_mul h1.1 h2.1 (by omega) (by omega)
 have h4:w * r <= 6 * 5:=Int.mul_le_mul h1.2 h2.2 (by omega) (by omega)
 refine zO Tryz.func20 Y (by kernel_rfl) Y ?_
 refine zn (zf (ql Y (zQ Y)) (zf (zg Y Y) (zo (zn (zf (zh Y Y) (zf (zi Y Y zpN) (zf (zl Y Y Y ty3) (zf (zi Y Y zqL) ?_))))))))
 refine zf (zl Y Y Y ty3) (zf (ya Y Y Y ⟨by omega, by omega⟩) (zf (vN Y Y Y ⟨by omega, by omega⟩) (zf (zB (av:=[_, _, _]) Y ⟨Y, Y, Y, trivial⟩ (Ct.f78 _ _ _)) (zf (zg Y Y) (zo (zN ?_))))))
 exact ⟨.inr Y, AVle.refl _⟩
end Tp
end Go.Av
end
