import Derived.Test.YtgmbdadkbominaaGreatDoorChY
set_option linter.unusedVariables false
set_option linter.unusedSimpArgs false
section
namespace Go.Av
namespace Tp
open Go.Proofs
set_option maxRecDepth 100000
set_option maxHeartbeats 1000000
variable {G:Glob}
theorem zqK:fldIs Tryz.prog 46 0 0 = true:=by kernel_rfl
theorem zqc:fldIs Tryz.prog 46 1 1 = true:=by kernel_rfl
theorem zvx:fldIs Tryz.prog 105 0 0 = true:=by kernel_rfl
theorem zuz:tyIs Tryz.prog 46 true 2 = true:=by kernel_rfl
theorem zvw:fldIs Tryz.prog 105 1 2 = true:=by kernel_rfl
theorem zuW:fldIs Tryz.prog 105 2 4 = true:=by kernel_rfl
theorem zv7:kw Tryz.prog 106 6 = true:=by kernel_rfl
theorem zby:tyIs Tryz.prog 105 true 6 = true:=by kernel_rfl
theorem zjc:kw Tryz.prog 24 1 = true:=by kernel_rfl
theorem zG:fldIs Tryz.prog 108 1 1 = true:=by kernel_rfl
theorem zuo:tyIs Tryz.prog 106 false 1 = true:=by kernel_rfl
theorem zwq:(Tryz.prog.info? 46).bind (·.zero) = some (.agg #[.int .i64 0, .int .i64 0]):=by kernel_rfl
theorem zvt:fldIs Tryz.prog 305 0 0 = true:=by kernel_rfl
theorem zw1:(Tryz.prog.info? 200).bind (·.zero) = some (.agg #[.int .i64 0, .int .i64 0, .int .i64 0]):=by kernel_rfl
theorem zuN:fldIs Tryz.prog 199 0 0 = true:=by kernel_rfl
theorem ziE:fldIs Tryz.prog 99 1 1 = true:=by kernel_rfl
theorem zv6:fldIs Tryz.prog 99 2 2 = true:=by kernel_rfl
theorem zxA:ze3 Tryz.prog 200 1 [.int .i64 0, .int .i64 0, .int .i64 0]:=⟨_, _, Tryz.t3, Tryz.underlying200, by kernel_rfl, by kernel_rfl, by kernel_rfl⟩
theorem zwA:tyIs Tryz.prog 200 true 3 = true:=by kernel_rfl
theorem zdQ:fldIs Tryz.prog 99 0 0 = true:=by kernel_rfl
theorem zuq:tyIs Tryz.prog 97 false 1 = true:=by kernel_rfl
theorem zur:kw Tryz.prog 97 2 = true:=by kernel_rfl
theorem zuJ:fldIs Tryz.prog 108 0 0 = true:=by kernel_rfl
theorem zvb {α β:Type} {f:α -> β} {L:List α} {k:Nat} {i:Int} (h:k < L.length) (hi:i = (k:Int)):(L.map f)[i.toNat]? = some (f L[k]):=by subst hi; simp [h]
structure Sp where
 h:Int
 x:Int
 y:Int
 lo:Int
 hi:Int
def eSp (s:Sp):List AV:=[.v (.int .i64 s.x), .v (.int .i64 s.x), .v (.int .i64 s.y), .v (.int .i64 s.y), .v (.int .i64 s.lo), .v (.int .i64 s.hi)]
def eLm (s:Sp):List AV:=[.v (.int .i64 s.h), .sl [eSp s]]
def eSu (L:List Sp) (r q:Int):List AV:=[.sl (L.map eLm), .v (.int .i64 r), .v (.int .i64 q), .v (.int .i64 0), .v (.int .i64 0)]
theorem zyq {L:List Sp} {k:Nat} (h:k < L.length):(L.map eLm)[k]? = some (eLm L[k]):=by simp [h]
theorem zun {L:List Sp}:∀ q ∈ L.map eLm, q.length = 2:=fun q hq=>by
 obtain ⟨t, _, rfl⟩:=List.mem_map.1 hq; rfl
def spB (a b m:Int):Bool:=decide (0 <= a) && decide (a <= b) && decide (b <= m)
def zuB (s:Sp):Bool:=spB s.x s.x 100 && spB s.y s.y 100 && spB s.lo s.hi 99999
theorem f95 (a b m:Int):ACall Tryz.prog G 95 [.agg [Ct.ei a, Ct.ei b], Ct.ei m] (.v (.bool (spB a b m))):=by
 refine zO Tryz.func95 Y (by kernel_rfl) Y ?_
 refine zn (zf (ql Y (zQ Y)) (zf (zg Y Y) (zo (zn (zf (zi Y Y zqK) (zf (zl Y Y Y ty3) (zf (kG Y Y Y) (zf (zh Y Y) ?_))))))))
 refine zC Y (fun hg=>zi Y Y zqK) (zC Y (fun hg=>zl Y (if_pos hg) Y ty3) (zC Y (fun hg=>zi Y Y zqc) (zC Y (fun hg=>zl Y (if_pos hg) Y ty3) (zC Y (fun hg=>zbt Y (if_pos hg) (if_pos hg)) (zf (jg Y Y Y Y) (zf (zh Y Y) (zC Y (fun hg=>zi Y Y zqc) (zC Y (fun hg=>zl Y (if_pos hg) Y ty3) (zC Y (fun hg=>zh Y Y) (zC Y (fun hg=>zbt Y (if_pos hg) (if_pos hg)) (zf (jg Y Y Y Y) ?_)))))))))))
 refine zf (zg Y Y) (zo (zN ?_))
 exact ⟨.inr Y, AVle.of (by simp [spB])⟩
theorem f191 (a b m:Int):ACall Tryz.prog G 191 [.agg [Ct.ei a, Ct.ei b], Ct.ei m] (.v (.bool (spB a b m))):=by
 refine zO Tryz.func191 Y (by kernel_rfl) Y ?_
 refine zn (zf (ql Y (zQ Y)) (zf (zg Y Y) (zo (zn (zf (zi Y Y zqK) (zf (zl Y Y Y ty3) (zf (kG Y Y Y) (zf (zh Y Y) ?_))))))))
 refine zC Y (fun hg=>zi Y Y zqK) (zC Y (fun hg=>zl Y (if_pos hg) Y ty3) (zC Y (fun hg=>zi Y Y zqc) (zC Y (fun hg=>zl Y (if_pos hg) Y ty3) (zC Y (fun hg=>zbt Y (if_pos hg) (if_pos hg)) (zf (jg Y Y Y Y) (zf (zh Y Y) (zC Y (fun hg=>zi Y Y zqc) (zC Y (fun hg=>zl Y (if_pos hg) Y ty3) (zC Y (fun hg=>zh Y Y) (zC Y (fun hg=>zbt Y (if_pos hg) (if_pos hg)) (zf (jg Y Y Y Y) ?_)))))))))))
 refine zf (zg Y Y) (zo (zN ?_))
 exact ⟨.inr Y, AVle.of (by simp [spB])⟩
theorem f94 (a b m:Int):ACall Tryz.prog G 94 [Ct.ei a, Ct.ei b, Ct.ei m] (.v (.bool (Ct.inB a b m))):=by
 refine zO Tryz.func94 Y (by kernel_rfl) Y ?_
 refine zn (zf (zg Y Y) (zo (zn (zf (zh Y Y) (zf (zh Y Y) (zf (kG Y Y Y) (zf (zh Y Y) (zC Y (fun hg=>zh Y Y) ?_))))))))
 refine zC Y (fun hg=>zh Y Y) (zC Y (fun hg=>zbt Y (if_pos hg) (if_pos hg)) (zf (jg Y Y Y Y) (zf (zg Y Y) (zo (zN ?_)))))
 exact ⟨.inr Y, AVle.of (by simp [Ct.inB])⟩
theorem f98 (a b m:Int):ACall Tryz.prog G 98 [Ct.ei a, Ct.ei b, Ct.ei m] (.v (.bool (Ct.inB a b m))):=by
 refine zO Tryz.func98 Y (by kernel_rfl) Y ?_
 refine zn (zf (zg Y Y) (zo (zn (zf (zh Y Y) (zf (zh Y Y) (zf (kG Y Y Y) (zf (zh Y Y) (zC Y (fun hg=>zh Y Y) ?_))))))))
 refine zC Y (fun hg=>zh Y Y) (zC Y (fun hg=>zbt Y (if_pos hg) (if_pos hg)) (zf (jg Y Y Y Y) (zf (zg Y Y) (zo (zN ?_)))))
 exact ⟨.inr Y, AVle.of (by simp [Ct.inB])⟩
theorem f190 (s:Sp):ACall Tryz.prog G 190 [.agg (eSp s)] (.v (.bool (!zuB s))):=by
 refine zO Tryz.func190 Y (by kernel_rfl) Y ?_
 refine zn (zf (ql Y (zQ Y)) (zf (zg Y Y) (zo (zn (zf (zi Y Y zvx) (zf (zK Y Y zuz (by exact zLb Y)) (zf (zB (av:=[_, _]) Y ⟨Y, Y, trivial⟩ (f191 _ _ _)) (zf (qJ Y Y) ?_))))))))
 refine zf (zh Y Y) (zC Y (fun hg=>zi Y Y zvw) (zC Y (fun hg=>zK Y (if_pos hg) zuz (by exact zLb Y)) (zC Y (fun hg=>zB (av:=[_, _]) Y ⟨((if_pos hg)), Y, trivial⟩ (f191 _ _ _)) (zC Y (fun hg=>qJ Y (if_pos hg)) (zf (jf Y Y Y Y) (zf (zh Y Y) (zC Y (fun hg=>zi Y Y zuW) (zC Y (fun hg=>zK Y (if_pos hg) zuz (by exact zLb Y)) (zC Y (fun hg=>zB (av:=[_, _]) Y ⟨((if_pos hg)), Y, trivial⟩ (f191 _ _ _)) (zC Y (fun hg=>qJ Y (if_pos hg)) (zf (jf Y Y Y Y) ?_)))))))))))
 refine zf (zg Y Y) (zo (zN ?_))
 exact ⟨.inr Y, AVle.of (by simp [zuB, Bool.or_assoc])⟩
theorem zvW {s:Sp} {k:Nat} (h:k < 1):([eSp s]:List (List AV))[k]? = some (eSp s):=by
 obtain rfl:k = 0:=by omega
 rfl
theorem zvr {s:Sp}:∀ q ∈ [eSp s], q.length = 6:=fun q hq=>by rw [List.mem_singleton.1 hq]; rfl
theorem f242 (s:Sp):ACall Tryz.prog G 242 [.sl [eSp s], .fn 190 [] []] (Ct.ei (if zuB s then -1 else 0)):=by
 refine zO Tryz.func242 Y (by kernel_rfl) Y ?_
 refine zn (zf (zg Y Y) (zo (zt (zn (zf (zI Y Y) (zf (qA Y Y Y Tryz.underlying106) (zf (zh Y Y) (zM ?_))))))))
 refine zk (zF ?_)
 refine qm (ι:={ k:Nat // k <= 1 /\ (0 < k -> zuB s = true) }) (fun k=>⟨Tryz.f242.ntmps, frL [(0, .pub (.sl [eSp s])), (1, .pub (.fn 190 [] [])), (6, .pub (.sl [eSp s])), (7, I ((([eSp s]:List (List AV)).length:Nat):Int)), (8, I (k.1:Int))], []⟩) (fun k=>1 - k.1) (⟨0, by simp⟩) ?_ ?_
 ·exact zy _ ⟨Y, Y, Y, Y, Y, trivial⟩ (Y)
 ·rintro ⟨k, hk⟩
  dsimp only
  refine zn (zf (qx Y Y Y) (zo (zt (zA Y (fun h0=>?_) (fun h0=>?_)))))
  ·have hlt:k < 1:=by have:=h0; simp at this; omega
   refine zH (zk (zt (zF (zn (zf (zh Y Y) (zf (zg Y Y) (zo (zn ?_))))))))
   refine zf (zI Y Y) (zf (zI Y Y) (zf (zh Y Y) ?_))
   refine zf (zD Y Y Y zv7 (by omega) (by exact zvW hlt) zvr) ?_
   refine zf (zK Y Y zby (by exact zLb Y)) (zf (vH (av:=[_]) Y Y ⟨Y, trivial⟩ (f190 _)) (zo (zA Y (fun h1=>?_) (fun h1=>?_))))
   ·have hb:zuB s = false:=by simpa using h1
    have hk0:k = 0:=by omega
    subst hk0
    refine zn (zf (zh Y Y) (zf (zg Y Y) (zo (zN (zZ (zP (zP (zZ (zP ?_)))))))))
    exact ⟨.inr Y, AVle.of (by simp [hb, Ct.ei])⟩
   ·have hb:zuB s = true:=by simpa using h1
    refine zH (zJ (zk (zx (zf (zW Y Y Y ⟨by omega, by omega⟩) (zf (zh Y Y) (zM ?_))))))
    exact ⟨⟨k + 1, by omega, fun _=>hb⟩, by dsimp only; omega, zy _ ⟨Y, Y, Y, Y, Y, trivial⟩ (Y)⟩
  ·have hge:k = 1 /\ zuB s = true:=⟨by have:=h0; simp at this; omega, hk.2 (by have:=h0; simp at this; omega)⟩
   refine qg (zS (zS (qh (zk (zn (zf (zg Y Y) (zo (zN ?_))))))))
   exact ⟨.inr Y, AVle.of (by simp [hge.2, Ct.ei])⟩
theorem f189 (s:Sp):ACall Tryz.prog G 189 [.sl [eSp s], .fn 190 [] []] (.v (.bool (!zuB s))):=by
 refine zO Tryz.func189 Y (by kernel_rfl) Y ?_
 refine zn (zf (zg Y Y) (zo (zn (zf (zI Y Y) (zf (zI Y Y) (zf (zB (av:=[_, _]) Y ⟨Y, Y, trivial⟩ (f242 s)) (zf (kG Y Y Y) (zf (zg Y Y) ?_))))))))
 refine zo (zN ?_)
 exact ⟨.inr Y, AVle.of (by cases zuB s <;> rfl)⟩
def eLk (L:List Sp) (r q:Int) (V:AV):List AV:=[.sl (L.map eLm), .v (.int .i64 r), .v (.int .i64 q), .v (.int .i64 0), .v (.int .i64 0), V]
def zx7 (a v:Int):Int:=if a = v then 0 else -1
theorem zuD {a:Int} {k:Nat} (h:k < 1):([[Ct.ei a]]:List (List AV))[k]? = some [Ct.ei a]:=by
 obtain rfl:k = 0:=by omega
 rfl
theorem zut {a:Int}:∀ q ∈ [[Ct.ei a]], q.length = 1:=fun q hq=>by rw [List.mem_singleton.1 hq]; rfl
theorem f195 (a v:Int):ACall Tryz.prog G 195 [.sl [[Ct.ei a]], Ct.ei v] (Ct.ei (zx7 a v)):=by
 refine zO Tryz.func195 Y (by kernel_rfl) Y ?_
 refine zn (zf (zg Y Y) (zo (zt (zn (zf (zI Y Y) (zf (qA Y Y Y Tryz.underlying24) (zf (zh Y Y) (zM ?_))))))))
 refine zk (zF ?_)
 refine qm (ι:={ k:Nat // k <= 1 /\ (0 < k -> a ≠ v) }) (fun k=>⟨Tryz.f195.ntmps, frL [(0, .pub (.sl [[Ct.ei a]])), (1, I v), (7, I ((([[Ct.ei a]]:List (List AV)).length:Nat):Int)), (8, I (k.1:Int))], []⟩) (fun k=>1 - k.1) (⟨0, by simp⟩) ?_ ?_
 ·exact zy _ ⟨Y, Y, Y, Y, trivial⟩ (Y)
 ·rintro ⟨k, hk⟩
  dsimp only
  refine zn (zf (qx Y Y Y) (zo (zt (zA Y (fun h0=>?_) (fun h0=>?_)))))
  ·have hlt:k < 1:=by have:=h0; simp at this; omega
   refine zH (zk (zt (zF (zn (zf (zh Y Y) (zf (zg Y Y) (zo (zn ?_))))))))
   refine zf (zh Y Y) (zf (zI Y Y) (zf (zh Y Y) ?_))
   refine zf (zD Y Y Y zjc (by omega) (by exact zuD hlt) zut) ?_
   refine zf (zl Y Y Y ty3) (zf (qR Y Y Y) (zo (zA Y (fun h1=>?_) (fun h1=>?_))))
   ·have hk0:k = 0:=by omega
    subst hk0
    have he:a = v:=by have:=h1; simp at this; omega
    refine zn (zf (zh Y Y) (zf (zg Y Y) (zo (zN (zZ (zP (zP (zZ (zP ?_)))))))))
    exact ⟨.inr Y, AVle.of (by simp [zx7, he, Ct.ei])⟩
   ·have he:a ≠ v:=by have:=h1; simp at this; omega
    refine zH (zJ (zk (zx (zf (zW Y Y Y ⟨by omega, by omega⟩) (zf (zh Y Y) (zM ?_))))))
    exact ⟨⟨k + 1, by omega, fun _=>he⟩, by dsimp only; omega, zy _ ⟨Y, Y, Y, Y, trivial⟩ (Y)⟩
  ·have hge:0 < k:=by have:=h0; simp at this; omega
   have hne:=hk.2 hge
   refine qg (zS (zS (qh (zk (zn (zf (zg Y Y) (zo (zN ?_))))))))
   exact ⟨.inr Y, AVle.of (by simp [zx7, hne, Ct.ei])⟩
theorem zzg (v:Int):ACall Tryz.prog G 195 [.sl [], Ct.ei v] (Ct.ei (-1)):=by
 refine zO Tryz.func195 Y (by kernel_rfl) Y ?_
 refine zn (zf (zg Y Y) (zo (zt (zn (zf (zI Y Y) (zf (qA Y Y Y Tryz.underlying24) (zf (zh Y Y) (zM ?_))))))))
 refine zk (zF ?_)
 refine qm (ι:={ k:Nat // True }) (fun k=>⟨Tryz.f195.ntmps, frL [(0, .pub (.sl [])), (1, I v), (7, I 0), (8, I (k.1:Int))], []⟩) (fun k=>0) (⟨0, trivial⟩) ?_ ?_
 ·exact zy _ ⟨Y, Y, Y, Y, trivial⟩ (Y)
 ·rintro ⟨k, hk⟩
  dsimp only
  refine zn (zf (qx Y Y Y) (zo (zt (zA Y (fun h0=>?_) (fun h0=>?_)))))
  ·exfalso; simp at h0; omega
  ·refine qg (zS (zS (qh (zk (zn (zf (zg Y Y) (zo (zN ?_))))))))
   exact ⟨.inr Y, AVle.refl _⟩
theorem f102 (a v:Int):ACall Tryz.prog G 102 [.sl [[Ct.ei a]], Ct.ei v] (.v (.bool (decide (a = v)))):=by
 refine zO Tryz.func102 Y (by kernel_rfl) Y ?_
 refine zn (zf (zg Y Y) (zo (zn (zf (zI Y Y) (zf (zh Y Y) (zf (zB (av:=[_, _]) Y ⟨Y, Y, trivial⟩ (f195 a v)) (zf (kG Y Y Y) (zf (zg Y Y) ?_))))))))
 refine zo (zN ?_)
 exact ⟨.inr Y, AVle.of (by unfold zx7; split <;> simp [*])⟩
theorem zyp (v:Int):ACall Tryz.prog G 102 [.sl [], Ct.ei v] (.v (.bool false)):=by
 refine zO Tryz.func102 Y (by kernel_rfl) Y ?_
 refine zn (zf (zg Y Y) (zo (zn (zf (zI Y Y) (zf (zh Y Y) (zf (zB (av:=[_, _]) Y ⟨Y, Y, trivial⟩ (zzg v)) (zf (kG Y Y Y) (zf (zg Y Y) ?_))))))))
 refine zo (zN ?_)
 exact ⟨.inr Y, AVle.of (by simp)⟩
theorem f193 (v:Int) (s:Sp):ACall Tryz.prog G 193 [.sl [[Ct.ei v]], .agg (eLm s)] (.v (.bool true)):=by
 refine zO Tryz.func193 Y (by kernel_rfl) Y ?_
 refine zn (zf (ql Y (zQ Y)) (zf (zg Y Y) (zo (zn (zf (zI Y Y) (zf (qA Y Y Y Tryz.underlying24) (zf (zi Y Y zG) (zf (zl Y Y Y zuo) ?_))))))))
 refine zf (qA Y Y Y Tryz.underlying106) (zf (qR Y Y Y) (zf (zg Y Y) (zo (zN ?_))))
 exact ⟨.inr Y, AVle.refl _⟩
theorem f243 (s:Sp):ACall Tryz.prog G 243 [.agg (eSp s)] (.agg [Ct.ei s.x, Ct.ei s.x]):=by
 refine zO Tryz.func243 Y (by kernel_rfl) Y ?_
 refine zn (zf (ql Y (zQ Y)) (qL Y (jr Y Y zwq Y Y) (zo (zn (zf (zi Y Y zvt) (zf (zi Y Y zvx) (zf (zK Y Y zuz (by exact zLb Y)) ?_)))))))
 refine qL Y (qw Y Y Y Y Y Y (zQ Y) zuz (by rfl) (by exact zLb Y)) ?_
 refine zo (zN ?_)
 exact ⟨.inr Y, zcp Y (jd Y Y Y Y zuz Y ⟨_, _, Y, AVle.refl _, ⟨_, _, Y, AVle.refl _, Y⟩⟩)⟩
theorem f244 (s:Sp):ACall Tryz.prog G 244 [.agg (eSp s)] (.agg [Ct.ei s.y, Ct.ei s.y]):=by
 refine zO Tryz.func244 Y (by kernel_rfl) Y ?_
 refine zn (zf (ql Y (zQ Y)) (qL Y (jr Y Y zwq Y Y) (zo (zn (zf (zi Y Y zvt) (zf (zi Y Y zvw) (zf (zK Y Y zuz (by exact zLb Y)) ?_)))))))
 refine qL Y (qw Y Y Y Y Y Y (zQ Y) zuz (by rfl) (by exact zLb Y)) ?_
 refine zo (zN ?_)
 exact ⟨.inr Y, zcp Y (jd Y Y Y Y zuz Y ⟨_, _, Y, AVle.refl _, ⟨_, _, Y, AVle.refl _, Y⟩⟩)⟩
theorem f245 (s:Sp):ACall Tryz.prog G 245 [.agg (eSp s)] (.agg [Ct.ei s.lo, Ct.ei s.hi]):=by
 refine zO Tryz.func245 Y (by kernel_rfl) Y ?_
 refine zn (zf (ql Y (zQ Y)) (qL Y (jr Y Y zwq Y Y) (zo (zn (zf (zi Y Y zvt) (zf (zi Y Y zuW) (zf (zK Y Y zuz (by exact zLb Y)) ?_)))))))
 refine qL Y (qw Y Y Y Y Y Y (zQ Y) zuz (by rfl) (by exact zLb Y)) ?_
 refine zo (zN ?_)
 exact ⟨.inr Y, zcp Y (jd Y Y Y Y zuz Y ⟨_, _, Y, AVle.refl _, ⟨_, _, Y, AVle.refl _, Y⟩⟩)⟩
theorem f100 (L:List Sp) (r q t:Int) (V:AV) (hr:0 <= r /\ r <= 1000) (hq:0 <= q /\ q <= 1000) (ht:0 <= t /\ t <= 1000):ACall Tryz.prog G 100 [.agg (eLk L r q V), Ct.ei t] (.agg [Ct.ei (r * t), Ct.ei (r * t), Ct.ei (q * t)]):=by
 have hA:r * t <= 1000 * 1000:=Int.mul_le_mul hr.2 ht.2 ht.1 (by omega)
 have hB:q * t <= 1000 * 1000:=Int.mul_le_mul hq.2 ht.2 ht.1 (by omega)
 have hC:=Int.mul_nonneg hr.1 ht.1
 have hD:=Int.mul_nonneg hq.1 ht.1
 refine zO Tryz.func100 Y (by kernel_rfl) Y ?_
 refine zn (zf (ql Y (zQ Y)) (qL Y (jr Y Y zw1 Y Y) (zo (zn (zf (zi Y Y zuN) (zf (zi Y Y ziE) (zf (zl Y Y Y ty3) (zf (zh Y Y) ?_))))))))
 refine zf (ya Y Y Y ⟨by omega, by omega⟩) (zf (zi Y Y zuN) (zf (zi Y Y ziE) (zf (zl Y Y Y ty3) (zf (zh Y Y) (zf (ya Y Y Y ⟨by omega, by omega⟩) (zf (zi Y Y zuN) (zf (zi Y Y zv6) (zf (zl Y Y Y ty3) (zf (zh Y Y) (zf (ya Y Y Y ⟨by omega, by omega⟩) ?_))))))))))
 refine zf (zkf (cs:=[_, _, _]) Y zxA Y ⟨_, _, Y, (qU Y), ⟨_, _, Y, (qU Y), ⟨_, _, Y, (qU Y), Y⟩⟩⟩ (by rfl) (by simp [ofV])) ?_
 refine qL Y (qw Y Y Y Y Y Y (zQ Y) zwA (by rfl) (by exact zLb Y)) ?_
 refine zo (zN ?_)
 exact ⟨.inr Y, zcp Y (jd Y Y Y Y zwA Y ⟨_, _, Y, AVle.refl _, ⟨_, _, Y, AVle.refl _, ⟨_, _, Y, AVle.refl _, Y⟩⟩⟩)⟩
theorem f101 (L:List Sp) (r q:Int) (V:AV) (k:Nat) (hL:L.length <= 4) (hk:k + 1 < L.length) (h0:0 <= L[k].h /\ L[k].h <= 1000) (h1:0 <= L[k + 1].h /\ L[k + 1].h <= 1000):ACall Tryz.prog G 101 [.agg (eLk L r q V), Ct.ei ((k:Int) + 1)] (Ct.ei (L[k + 1].h - L[k].h)):=by
 refine zO Tryz.func101 Y (by kernel_rfl) Y ?_
 refine zn (zf (ql Y (zQ Y)) (zf (zg Y Y) (zo (zt ?_))))
 refine qp mixed (by kernel_rfl) Y ?_
 refine zu Y (zi Y Y zuN) (zu Y (zi Y Y zdQ) (zu Y (zl Y Y Y zuq) (zu Y (zh Y Y) (zu Y (zD Y Y Y zur (by omega) (zvb hk (by omega)) zun) (zu Y (zi Y Y zuJ) (zu Y (zl Y Y Y ty3) (zu Y (zi Y Y zuN) (zu Y (zi Y Y zdQ) (zu Y (zl Y Y Y zuq) (zu Y (zh Y Y) (zu Y (vN Y Y Y ⟨by omega, by omega⟩) ?_)))))))))))
 refine zu Y (zD Y Y Y zur (by omega) (zvb (show k < L.length by omega) (by omega)) zun) ?_
 refine zu Y (zi Y Y zuJ) (zu Y (zl Y Y Y ty3) (zu Y (vN Y Y Y ⟨by omega, by omega⟩) (zu Y (zg Y Y) (qF (zk (zN ?_))))))
 exact ⟨.inr Y, AVle.refl _⟩
theorem zuO:(Tryz.prog.info? 202).bind (·.zero) = some (.agg #[.int .i64 0, .int .i64 0, .int .i64 0, .int .i64 0, .int .i64 0, .int .i64 0]):=by kernel_rfl
theorem zw4:tyIs Tryz.prog 305 true 6 = true:=by kernel_rfl
theorem zzv:ze3 Tryz.prog 350 1 [.nilFunc, .nilFunc, .nilFunc]:=⟨_, _, Tryz.t349, Tryz.underlying350, by kernel_rfl, by kernel_rfl, by kernel_rfl⟩
theorem zwu:zeE Tryz.prog 350 3 1 = true:=by kernel_rfl
theorem zxh:tyIs Tryz.prog 349 false 1 = true:=by kernel_rfl
theorem qf:zeE Tryz.prog 202 3 2 = true:=by kernel_rfl
theorem wX:tyIs Tryz.prog 202 true 6 = true:=by kernel_rfl
theorem zzC:vM Tryz.prog 305 [(0, 6)] [.int .i64 0, .int .i64 0, .int .i64 0, .int .i64 0, .int .i64 0, .int .i64 0]:=⟨_, Tryz.underlying305, by kernel_rfl, by kernel_rfl⟩
theorem zup:tyIs Tryz.prog 199 true 6 = true:=by kernel_rfl
theorem zuF:zeE Tryz.prog 200 3 1 = true:=by kernel_rfl
theorem zva:kw Tryz.prog 353 6 = true:=by kernel_rfl
theorem ztP:vM Tryz.prog 46 [(0, 1), (1, 1)] [.int .i64 0, .int .i64 0]:=⟨_, Tryz.underlying46, by kernel_rfl, by kernel_rfl⟩
theorem f194 (s:Sp):ACall Tryz.prog G 194 [.agg (eSp s)] (.agg (eSp s)):=by
 refine zO Tryz.func194 Y (by kernel_rfl) Y ?_
 refine zn (zf (ql Y (zQ Y)) (qL Y (jr Y Y zuO Y Y) (zo (zn (qL Y (jr Y Y zuO Y Y) (zo (zt ?_)))))))
 refine zn (zf (zK Y Y zw4 (by exact zLb Y)) (zf (wC (fs:=[_]) (cs:=[]) Y Y Y) (zf (zK Y Y zw4 (by exact zLb Y)) (zf (wC (fs:=[_]) (cs:=[]) Y Y Y) (zf (zK Y Y zw4 (by exact zLb Y)) (zf (wC (fs:=[_]) (cs:=[]) Y Y Y) ?_))))))
 refine zf (zkf (cs:=[_, _, _]) Y zzv Y ⟨_, _, Y, (zg4 Y), ⟨_, _, Y, (zg4 Y), ⟨_, _, Y, (zg4 Y), Y⟩⟩⟩ (by rfl) (by simp [ofV])) ?_
 refine zf (zh Y Y) (zo (zF ?_))
 refine qm (ι:={ k:Nat // k < 4 }) (fun k=>match k.1 with | 0=>⟨Tryz.f194.ntmps, frL [(2, .pp 0 1 0 0), (3, .pp 1 1 0 0), (12, .pub (.agg [.fn 243 [.agg (eSp s)] [], .fn 244 [.agg (eSp s)] [], .fn 245 [.agg (eSp s)] []])), (13, I 0)], [.row [[I 0, I 0, I 0, I 0, I 0, I 0]], .row [[I 0, I 0, I 0, I 0, I 0, I 0]]]⟩ | 1=>⟨Tryz.f194.ntmps, frL [(2, .pp 0 1 0 0), (3, .pp 1 1 0 0), (12, .pub (.agg [.fn 243 [.agg (eSp s)] [], .fn 244 [.agg (eSp s)] [], .fn 245 [.agg (eSp s)] []])), (13, I 1)], [.row [[I 0, I 0, I 0, I 0, I 0, I 0]], .row [[I s.x, I s.x, I 0, I 0, I 0, I 0]]]⟩ | 2=>⟨Tryz.f194.ntmps, frL [(2, .pp 0 1 0 0), (3, .pp 1 1 0 0), (12, .pub (.agg [.fn 243 [.agg (eSp s)] [], .fn 244 [.agg (eSp s)] [], .fn 245 [.agg (eSp s)] []])), (13, I 2)], [.row [[I 0, I 0, I 0, I 0, I 0, I 0]], .row [[I s.x, I s.x, I s.y, I s.y, I 0, I 0]]]⟩ | _=>⟨Tryz.f194.ntmps, frL [(2, .pp 0 1 0 0), (3, .pp 1 1 0 0), (12, .pub (.agg [.fn 243 [.agg (eSp s)] [], .fn 244 [.agg (eSp s)] [], .fn 245 [.agg (eSp s)] []])), (13, I 3)], [.row [[I 0, I 0, I 0, I 0, I 0, I 0]], .row [[I s.x, I s.x, I s.y, I s.y, I s.lo, I s.hi]]]⟩) (fun k=>4 - k.1) (⟨0, by omega⟩) ?_ ?_
 ·exact zy _ ⟨Y, Y, Y, Y, trivial⟩ (Y)
 ·rintro ⟨k, hk⟩
  have hk3:k = 0 ∨ k = 1 ∨ k = 2 ∨ k = 3:=by omega
  rcases hk3 with rfl | rfl | rfl | rfl
  ·dsimp only
   refine zn (zf (qx Y Y Y) (zo (zt (zA Y (fun h0=>?_) (fun h0=>?_)))))
   ·refine zH (zk (zt (zF (zn (zf (zh Y Y) ?_)))))
    refine zf (zes Y Y Y zwu (fun e he=>by rw [Tryz.underlying350] at he; cases he; exact zxh) (by omega) (by omega) Y) ?_
    refine zf (zg Y Y) (zf (qG Y Y) (zo (zx (zf (zh Y Y) (zf (zI Y Y) (zf (vH (av:=[]) Y Y trivial (f243 s)) (zf (zV Y Y Y Y Y qf (by omega) (by omega)) ?_)))))))
    refine qL Y (qw Y Y Y Y Y Y (zQ Y) zuz (by rfl) (by exact zLb Y)) ?_
    refine zM (zJ (zk (zx (zf (zW Y Y Y ⟨by omega, by omega⟩) (zf (zh Y Y) (zM ?_))))))
    exact ⟨⟨1, by omega⟩, by dsimp only; omega, (by refine zy (mem':=[.row [[I 0, I 0, I 0, I 0, I 0, I 0]], .row [[I s.x, I s.x, I 0, I 0, I 0, I 0]]]) [(2, .pp 0 1 0 0), (3, .pp 1 1 0 0), (12, .pub (.agg [.fn 243 [.agg (eSp s)] [], .fn 244 [.agg (eSp s)] [], .fn 245 [.agg (eSp s)] []])), (13, I 1)] ?_ ?_; exact ⟨Y, Y, Y, Y, trivial⟩; exact (Y))⟩
   ·exfalso; simp at h0
  ·dsimp only
   refine zn (zf (qx Y Y Y) (zo (zt (zA Y (fun h0=>?_) (fun h0=>?_)))))
   ·refine zH (zk (zt (zF (zn (zf (zh Y Y) ?_)))))
    refine zf (zes Y Y Y zwu (fun e he=>by rw [Tryz.underlying350] at he; cases he; exact zxh) (by omega) (by omega) Y) ?_
    refine zf (zg Y Y) (zf (qG Y Y) (zo (zx (zf (zh Y Y) (zf (zI Y Y) (zf (vH (av:=[]) Y Y trivial (f244 s)) (zf (zV Y Y Y Y Y qf (by omega) (by omega)) ?_)))))))
    refine qL Y (qw Y Y Y Y Y Y (zQ Y) zuz (by rfl) (by exact zLb Y)) ?_
    refine zM (zJ (zk (zx (zf (zW Y Y Y ⟨by omega, by omega⟩) (zf (zh Y Y) (zM ?_))))))
    exact ⟨⟨2, by omega⟩, by dsimp only; omega, (by refine zy (mem':=[.row [[I 0, I 0, I 0, I 0, I 0, I 0]], .row [[I s.x, I s.x, I s.y, I s.y, I 0, I 0]]]) [(2, .pp 0 1 0 0), (3, .pp 1 1 0 0), (12, .pub (.agg [.fn 243 [.agg (eSp s)] [], .fn 244 [.agg (eSp s)] [], .fn 245 [.agg (eSp s)] []])), (13, I 2)] ?_ ?_; exact ⟨Y, Y, Y, Y, trivial⟩; exact (Y))⟩
   ·exfalso; simp at h0
  ·dsimp only
   refine zn (zf (qx Y Y Y) (zo (zt (zA Y (fun h0=>?_) (fun h0=>?_)))))
   ·refine zH (zk (zt (zF (zn (zf (zh Y Y) ?_)))))
    refine zf (zes Y Y Y zwu (fun e he=>by rw [Tryz.underlying350] at he; cases he; exact zxh) (by omega) (by omega) Y) ?_
    refine zf (zg Y Y) (zf (qG Y Y) (zo (zx (zf (zh Y Y) (zf (zI Y Y) (zf (vH (av:=[]) Y Y trivial (f245 s)) (zf (zV Y Y Y Y Y qf (by omega) (by omega)) ?_)))))))
    refine qL Y (qw Y Y Y Y Y Y (zQ Y) zuz (by rfl) (by exact zLb Y)) ?_
    refine zM (zJ (zk (zx (zf (zW Y Y Y ⟨by omega, by omega⟩) (zf (zh Y Y) (zM ?_))))))
    exact ⟨⟨3, by omega⟩, by dsimp only; omega, (by refine zy (mem':=[.row [[I 0, I 0, I 0, I 0, I 0, I 0]], .row [[I s.x, I s.x, I s.y, I s.y, I s.lo, I s.hi]]]) [(2, .pp 0 1 0 0), (3, .pp 1 1 0 0), (12, .pub (.agg [.fn 243 [.agg (eSp s)] [], .fn 244 [.agg (eSp s)] [], .fn 245 [.agg (eSp s)] []])), (13, I 3)] ?_ ?_; exact ⟨Y, Y, Y, Y, trivial⟩; exact (Y))⟩
   ·exfalso; simp at h0
  ·dsimp only
   refine zn (zf (qx Y Y Y) (zo (zt (zA Y (fun h0=>?_) (fun h0=>?_)))))
   ·exfalso; simp at h0
   ·refine qg (zS (zS (qh (zk (zn (zf (qV (cs:=[_, _, _, _, _, _]) Y Y Y Y Y (by exact zLb Y) Y wX) ?_))))))
    refine qL Y (qw Y Y Y Y Y Y (zQ Y) wX (by rfl) (by exact zLb Y)) ?_
    refine zo (zN ?_)
    exact ⟨.inr Y, zcp Y (jd Y Y Y Y wX Y ⟨_, _, Y, AVle.refl _, ⟨_, _, Y, AVle.refl _, ⟨_, _, Y, AVle.refl _, ⟨_, _, Y, AVle.refl _, ⟨_, _, Y, AVle.refl _, ⟨_, _, Y, AVle.refl _, Y⟩⟩⟩⟩⟩⟩)⟩
theorem f99 (L:List Sp) (r q:Int) (V:AV) (i:Nat) (hi:i < L.length):ACall Tryz.prog G 99 [.agg (eLk L r q V), Ct.ei (i:Int), Ct.ei 0] (.agg (eSp L[i])):=by
 refine zO Tryz.func99 Y (by kernel_rfl) Y ?_
 refine zn (zf (ql Y (zQ Y)) (qL Y (jr Y Y zuO Y Y) (zo (zn (zf (zi Y Y zuN) (zf (zi Y Y zdQ) (zf (zl Y Y Y zuq) (zf (zh Y Y) ?_))))))))
 refine zf (zD Y Y Y zur (by omega) (zvb hi Y) zun) (zf (zi Y Y zG) (zf (zl Y Y Y zuo) (zf (zh Y Y) ?_)))
 refine zf (zD Y Y Y zv7 (by omega) (by exact zvW (k:=0) (by omega)) zvr) ?_
 refine zf (zK Y Y zby (by exact zLb Y)) ?_
 refine zf (yl (cs:=[_, _, _, _, _, _]) Y zzC Y ⟨_, _, Y, (zQ Y), Y⟩ (by rfl) (by simp [ofV])) ?_
 refine zf (zB (av:=[_]) Y ⟨Y, trivial⟩ (f194 L[i])) ?_
 refine qL Y (qw Y Y Y Y Y Y (zQ Y) wX (by rfl) (by exact zLb Y)) ?_
 refine zo (zN ?_)
 exact ⟨.inr Y, zcp Y (jd Y Y Y Y wX Y ⟨_, _, Y, AVle.refl _, ⟨_, _, Y, AVle.refl _, ⟨_, _, Y, AVle.refl _, ⟨_, _, Y, AVle.refl _, ⟨_, _, Y, AVle.refl _, ⟨_, _, Y, AVle.refl _, Y⟩⟩⟩⟩⟩⟩)⟩
structure Bx where
 x0:Int
 x1:Int
 y0:Int
 y1:Int
 p0:Int
 p1:Int
def eBx (b:Bx):List AV:=[.v (.int .i64 b.x0), .v (.int .i64 b.x1), .v (.int .i64 b.y0), .v (.int .i64 b.y1), .v (.int .i64 b.p0), .v (.int .i64 b.p1)]
def wide (b:Bx) (u v w:Int):Bx:=⟨b.x0 - u, b.x1 + u, b.y0 - v, b.y1 + v, b.p0 - w, b.p1 + w⟩
def zvI (b:Bx) (n:Int):Prop:=(-n <= b.x0 /\ b.x0 <= n) /\ (-n <= b.x1 /\ b.x1 <= n) /\ (-n <= b.y0 /\ b.y0 <= n) /\ (-n <= b.y1 /\ b.y1 <= n) /\ (-n <= b.p0 /\ b.p0 <= n) /\ (-n <= b.p1 /\ b.p1 <= n)
theorem f249 (L:List Sp) (r q t:Int) (V:AV) (b:Bx) (hb:zvI b 100000000) (hr:0 <= r /\ r <= 1000) (hq:0 <= q /\ q <= 1000) (ht:0 <= t /\ t <= 1000):ACall Tryz.prog G 249 [.agg (eLk L r q V), .agg (eBx b), Ct.ei t] (.agg (eBx (wide b (r * t) (r * t) (q * t)))):=by
 have hA:r * t <= 1000 * 1000:=Int.mul_le_mul hr.2 ht.2 ht.1 (by omega)
 have hB:q * t <= 1000 * 1000:=Int.mul_le_mul hq.2 ht.2 ht.1 (by omega)
 have hC:=Int.mul_nonneg hr.1 ht.1
 have hD:=Int.mul_nonneg hq.1 ht.1
 obtain ⟨b1, b2, b3, b4, b5, b6⟩:=hb
 refine zO Tryz.func249 Y (by kernel_rfl) Y ?_
 refine zn (zf (ql Y (zQ Y)) (qL Y (zru Y Y (zQ Y)) (qL Y (jr Y Y zuO Y Y) (zo (zt (zn (zf (zK Y Y zup (by exact zLb Y)) (zf (zh Y Y) ?_))))))))
 refine zf (zB (av:=[_, _]) Y ⟨Y, Y, trivial⟩ (f100 L r q t V hr hq ht)) (zf (zh Y Y) (zo (zF ?_)))
 refine qm (ι:={ k:Nat // k < 4 }) (fun k=>match k.1 with | 0=>⟨Tryz.f249.ntmps, frL [(4, .pp 0 1 0 0), (6, .pp 1 1 0 0), (11, .pub (.agg [Ct.ei (r * t), Ct.ei (r * t), Ct.ei (q * t)])), (12, I 0)], [.row [[I b.x0, I b.x1, I b.y0, I b.y1, I b.p0, I b.p1]], .row [[I 0, I 0, I 0, I 0, I 0, I 0]]]⟩ | 1=>⟨Tryz.f249.ntmps, frL [(4, .pp 0 1 0 0), (6, .pp 1 1 0 0), (11, .pub (.agg [Ct.ei (r * t), Ct.ei (r * t), Ct.ei (q * t)])), (12, I 1)], [.row [[I (b.x0 - r * t), I (b.x1 + r * t), I b.y0, I b.y1, I b.p0, I b.p1]], .row [[I 0, I 0, I 0, I 0, I 0, I 0]]]⟩ | 2=>⟨Tryz.f249.ntmps, frL [(4, .pp 0 1 0 0), (6, .pp 1 1 0 0), (11, .pub (.agg [Ct.ei (r * t), Ct.ei (r * t), Ct.ei (q * t)])), (12, I 2)], [.row [[I (b.x0 - r * t), I (b.x1 + r * t), I (b.y0 - r * t), I (b.y1 + r * t), I b.p0, I b.p1]], .row [[I 0, I 0, I 0, I 0, I 0, I 0]]]⟩ | _=>⟨Tryz.f249.ntmps, frL [(4, .pp 0 1 0 0), (6, .pp 1 1 0 0), (11, .pub (.agg [Ct.ei (r * t), Ct.ei (r * t), Ct.ei (q * t)])), (12, I 3)], [.row [[I (b.x0 - r * t), I (b.x1 + r * t), I (b.y0 - r * t), I (b.y1 + r * t), I (b.p0 - q * t), I (b.p1 + q * t)]], .row [[I 0, I 0, I 0, I 0, I 0, I 0]]]⟩) (fun k=>4 - k.1) (⟨0, by omega⟩) ?_ ?_
 ·exact zy _ ⟨Y, Y, Y, Y, trivial⟩ (Y)
 ·rintro ⟨k, hk⟩
  have hk3:k = 0 ∨ k = 1 ∨ k = 2 ∨ k = 3:=by omega
  rcases hk3 with rfl | rfl | rfl | rfl
  ·dsimp only
   refine zn (zf (qx Y Y Y) (zo (zt (zA Y (fun h0=>?_) (fun h0=>?_)))))
   ·refine zH (zk (zt (zF (zn (zf (zh Y Y) ?_)))))
    refine zf (zes Y Y Y zuF (fun e he=>by rw [Tryz.underlying200] at he; cases he; exact ty3) (by omega) (by omega) Y) ?_
    refine zf (zg Y Y) (zf (zg Y Y) (zo ?_))
    refine zfD (fun mm=>∃ rows, mm[0]? = some (.row rows) /\ rows.length = 1) (fun k=>match k with | 1=>.stable | 8=>.stable | 12=>.stable | 13=>.stable | 14=>.stable | 16=>.writes | 17=>.stable | 18=>.stable | 19=>.writes | _=>.here) mixed (by kernel_rfl) rfl (by kernel_rfl) ⟨_, rfl, rfl⟩ ?_
    refine znG Y Y (zh Y Y) (jv Y Y (fun m hm=>zh Y Y) (znG Y Y (zh Y Y) (znG Y Y (zV Y Y Y Y Y qf (by omega) (by omega)) (znG Y Y (jJ Y Y Y Y zqK) (znG Y Y (zX Y Y Y Y Y Y ty3) (znG Y Y (zh Y Y) (znG Y Y (vN Y Y Y ⟨by omega, by omega⟩) (jv Y Y (fun m hm=>zh Y Y) (znG Y Y (zV Y Y Y Y Y qf (by omega) (by omega)) (znG Y Y (jJ Y Y Y Y zqc) (znG Y Y (zX Y Y Y Y Y Y ty3) ?_)))))))))))
    refine jv Y Y (fun m hm=>zh Y Y) (jv Y Y (fun m hm=>zW Y Y Y ⟨by omega, by omega⟩) (jv Y Y (fun m hm=>zV Y Y Y hm.choose_spec.1 hm.choose_spec.2 qf (by omega) (by omega)) (znG Y Y (jJ Y Y Y Y zqK) ?_)))
    refine zpt Y Y (zd0 Y Y Y Y Y Y (qU Y) ty3 (by rfl) (by rfl)) ⟨_, Y, Y⟩ ?_
    refine jv Y Y (fun m hm=>zV Y Y Y hm.choose_spec.1 hm.choose_spec.2 qf (by omega) (by omega)) (jv Y Y (fun m hm=>jJ Y Y hm.choose_spec.1 hm.choose_spec.2 zqc) ?_)
    refine zpt Y Y (zd0 Y Y Y Y Y Y (qU Y) ty3 (by rfl) (by rfl)) ⟨_, Y, Y⟩ ?_
    refine zfa (zJ (zk (zx (zf (zW Y Y Y ⟨by omega, by omega⟩) (zf (zh Y Y) (zM ?_))))))
    exact ⟨⟨1, by omega⟩, by dsimp only; omega, (by refine zy (mem':=[.row [[I (b.x0 - r * t), I (b.x1 + r * t), I b.y0, I b.y1, I b.p0, I b.p1]], .row [[I 0, I 0, I 0, I 0, I 0, I 0]]]) [(4, .pp 0 1 0 0), (6, .pp 1 1 0 0), (11, .pub (.agg [Ct.ei (r * t), Ct.ei (r * t), Ct.ei (q * t)])), (12, I 1)] ?_ ?_; exact ⟨Y, Y, Y, Y, trivial⟩; exact (Y))⟩
   ·exfalso; simp at h0
  ·dsimp only
   refine zn (zf (qx Y Y Y) (zo (zt (zA Y (fun h0=>?_) (fun h0=>?_)))))
   ·refine zH (zk (zt (zF (zn (zf (zh Y Y) ?_)))))
    refine zf (zes Y Y Y zuF (fun e he=>by rw [Tryz.underlying200] at he; cases he; exact ty3) (by omega) (by omega) Y) ?_
    refine zf (zg Y Y) (zf (zg Y Y) (zo ?_))
    refine zfD (fun mm=>∃ rows, mm[0]? = some (.row rows) /\ rows.length = 1) (fun k=>match k with | 1=>.stable | 8=>.stable | 12=>.stable | 13=>.stable | 14=>.stable | 16=>.writes | 17=>.stable | 18=>.stable | 19=>.writes | _=>.here) mixed (by kernel_rfl) rfl (by kernel_rfl) ⟨_, rfl, rfl⟩ ?_
    refine znG Y Y (zh Y Y) (jv Y Y (fun m hm=>zh Y Y) (znG Y Y (zh Y Y) (znG Y Y (zV Y Y Y Y Y qf (by omega) (by omega)) (znG Y Y (jJ Y Y Y Y zqK) (znG Y Y (zX Y Y Y Y Y Y ty3) (znG Y Y (zh Y Y) (znG Y Y (vN Y Y Y ⟨by omega, by omega⟩) (jv Y Y (fun m hm=>zh Y Y) (znG Y Y (zV Y Y Y Y Y qf (by omega) (by omega)) (znG Y Y (jJ Y Y Y Y zqc) (znG Y Y (zX Y Y Y Y Y Y ty3) ?_)))))))))))
    refine jv Y Y (fun m hm=>zh Y Y) (jv Y Y (fun m hm=>zW Y Y Y ⟨by omega, by omega⟩) (jv Y Y (fun m hm=>zV Y Y Y hm.choose_spec.1 hm.choose_spec.2 qf (by omega) (by omega)) (znG Y Y (jJ Y Y Y Y zqK) ?_)))
    refine zpt Y Y (zd0 Y Y Y Y Y Y (qU Y) ty3 (by rfl) (by rfl)) ⟨_, Y, Y⟩ ?_
    refine jv Y Y (fun m hm=>zV Y Y Y hm.choose_spec.1 hm.choose_spec.2 qf (by omega) (by omega)) (jv Y Y (fun m hm=>jJ Y Y hm.choose_spec.1 hm.choose_spec.2 zqc) ?_)
    refine zpt Y Y (zd0 Y Y Y Y Y Y (qU Y) ty3 (by rfl) (by rfl)) ⟨_, Y, Y⟩ ?_
    refine zfa (zJ (zk (zx (zf (zW Y Y Y ⟨by omega, by omega⟩) (zf (zh Y Y) (zM ?_))))))
    exact ⟨⟨2, by omega⟩, by dsimp only; omega, (by refine zy (mem':=[.row [[I (b.x0 - r * t), I (b.x1 + r * t), I (b.y0 - r * t), I (b.y1 + r * t), I b.p0, I b.p1]], .row [[I 0, I 0, I 0, I 0, I 0, I 0]]]) [(4, .pp 0 1 0 0), (6, .pp 1 1 0 0), (11, .pub (.agg [Ct.ei (r * t), Ct.ei (r * t), Ct.ei (q * t)])), (12, I 2)] ?_ ?_; exact ⟨Y, Y, Y, Y, trivial⟩; exact (Y))⟩
   ·exfalso; simp at h0
  ·dsimp only
   refine zn (zf (qx Y Y Y) (zo (zt (zA Y (fun h0=>?_) (fun h0=>?_)))))
   ·refine zH (zk (zt (zF (zn (zf (zh Y Y) ?_)))))
    refine zf (zes Y Y Y zuF (fun e he=>by rw [Tryz.underlying200] at he; cases he; exact ty3) (by omega) (by omega) Y) ?_
    refine zf (zg Y Y) (zf (zg Y Y) (zo ?_))
    refine zfD (fun mm=>∃ rows, mm[0]? = some (.row rows) /\ rows.length = 1) (fun k=>match k with | 1=>.stable | 8=>.stable | 12=>.stable | 13=>.stable | 14=>.stable | 16=>.writes | 17=>.stable | 18=>.stable | 19=>.writes | _=>.here) mixed (by kernel_rfl) rfl (by kernel_rfl) ⟨_, rfl, rfl⟩ ?_
    refine znG Y Y (zh Y Y) (jv Y Y (fun m hm=>zh Y Y) (znG Y Y (zh Y Y) (znG Y Y (zV Y Y Y Y Y qf (by omega) (by omega)) (znG Y Y (jJ Y Y Y Y zqK) (znG Y Y (zX Y Y Y Y Y Y ty3) (znG Y Y (zh Y Y) (znG Y Y (vN Y Y Y ⟨by omega, by omega⟩) (jv Y Y (fun m hm=>zh Y Y) (znG Y Y (zV Y Y Y Y Y qf (by omega) (by omega)) (znG Y Y (jJ Y Y Y Y zqc) (znG Y Y (zX Y Y Y Y Y Y ty3) ?_)))))))))))
    refine jv Y Y (fun m hm=>zh Y Y) (jv Y Y (fun m hm=>zW Y Y Y ⟨by omega, by omega⟩) (jv Y Y (fun m hm=>zV Y Y Y hm.choose_spec.1 hm.choose_spec.2 qf (by omega) (by omega)) (znG Y Y (jJ Y Y Y Y zqK) ?_)))
    refine zpt Y Y (zd0 Y Y Y Y Y Y (qU Y) ty3 (by rfl) (by rfl)) ⟨_, Y, Y⟩ ?_
    refine jv Y Y (fun m hm=>zV Y Y Y hm.choose_spec.1 hm.choose_spec.2 qf (by omega) (by omega)) (jv Y Y (fun m hm=>jJ Y Y hm.choose_spec.1 hm.choose_spec.2 zqc) ?_)
    refine zpt Y Y (zd0 Y Y Y Y Y Y (qU Y) ty3 (by rfl) (by rfl)) ⟨_, Y, Y⟩ ?_
    refine zfa (zJ (zk (zx (zf (zW Y Y Y ⟨by omega, by omega⟩) (zf (zh Y Y) (zM ?_))))))
    exact ⟨⟨3, by omega⟩, by dsimp only; omega, (by refine zy (mem':=[.row [[I (b.x0 - r * t), I (b.x1 + r * t), I (b.y0 - r * t), I (b.y1 + r * t), I (b.p0 - q * t), I (b.p1 + q * t)]], .row [[I 0, I 0, I 0, I 0, I 0, I 0]]]) [(4, .pp 0 1 0 0), (6, .pp 1 1 0 0), (11, .pub (.agg [Ct.ei (r * t), Ct.ei (r * t), Ct.ei (q * t)])), (12, I 3)] ?_ ?_; exact ⟨Y, Y, Y, Y, trivial⟩; exact (Y))⟩
   ·exfalso; simp at h0
  ·dsimp only
   refine zn (zf (qx Y Y Y) (zo (zt (zA Y (fun h0=>?_) (fun h0=>?_)))))
   ·exfalso; simp at h0
   ·refine qg (zS (zS (qh (zk (zn (zf (qV (cs:=[_, _, _, _, _, _]) Y Y Y Y Y (by exact zLb Y) Y wX) ?_))))))
    refine qL Y (qw Y Y Y Y Y Y (zQ Y) wX (by rfl) (by exact zLb Y)) ?_
    refine zo (zN ?_)
    exact ⟨.inr Y, zcp Y (jd Y Y Y Y wX Y ⟨_, _, Y, AVle.refl _, ⟨_, _, Y, AVle.refl _, ⟨_, _, Y, AVle.refl _, ⟨_, _, Y, AVle.refl _, ⟨_, _, Y, AVle.refl _, ⟨_, _, Y, AVle.refl _, Y⟩⟩⟩⟩⟩⟩)⟩
def meet (b c:Bx):Bx:=⟨max b.x0 c.x0, min b.x1 c.x1, max b.y0 c.y0, min b.y1 c.y1, max b.p0 c.p0, min b.p1 c.p1⟩
def zxd (b:Bx):Prop:=b.x0 <= b.x1 /\ b.y0 <= b.y1 /\ b.p0 <= b.p1
theorem zy7 {c:Bx} {k:Nat} (h:k < 1):([eBx c]:List (List AV))[k]? = some (eBx c):=by
 obtain rfl:k = 0:=by omega
 rfl
theorem zyQ {c:Bx}:∀ q ∈ [eBx c], q.length = 6:=fun q hq=>by rw [List.mem_singleton.1 hq]; rfl
theorem f197 (b c:Bx) (hm:zxd (meet b c)):ACall Tryz.prog G 197 [.agg (eBx b), .sl [eBx c]] (.agg (eBx (meet b c))):=by
 obtain ⟨n1, n2, n3⟩:=hm
 simp only[meet] at n1 n2 n3
 refine zO Tryz.func197 Y (by kernel_rfl) Y ?_
 refine zn (qL Y (zru Y Y (zQ Y)) (qL Y (jr Y Y zuO Y Y) (zo (zt (zn (zf (zI Y Y) (zf (qA Y Y Y Tryz.underlying353) (zf (zh Y Y) ?_))))))))
 refine zo (zF ?_)
 refine qm (ι:={ k:Nat // k < 2 }) (fun k=>match k.1 with | 0=>⟨Tryz.f197.ntmps, frL [(2, .pp 0 1 0 0), (4, .pp 1 1 0 0), (8, .pub (.sl [eBx c])), (9, I ((([eBx c]:List (List AV)).length:Nat):Int)), (10, I 0)], [.row [[I b.x0, I b.x1, I b.y0, I b.y1, I b.p0, I b.p1]], .row [[I 0, I 0, I 0, I 0, I 0, I 0]]]⟩ | _=>⟨Tryz.f197.ntmps, frL [(2, .pp 0 1 0 0), (4, .pp 1 1 0 0), (8, .pub (.sl [eBx c])), (9, I ((([eBx c]:List (List AV)).length:Nat):Int)), (10, I 1)], [.row [[I (max b.x0 c.x0), I (min b.x1 c.x1), I (max b.y0 c.y0), I (min b.y1 c.y1), I (max b.p0 c.p0), I (min b.p1 c.p1)]], .row [[I 0, I 0, I 0, I 0, I 0, I 0]]]⟩) (fun k=>2 - k.1) (⟨0, by omega⟩) ?_ ?_
 ·exact zy _ ⟨Y, Y, Y, Y, Y, trivial⟩ (Y)
 ·rintro ⟨k, hk⟩
  have hk3:k = 0 ∨ k = 1:=by omega
  rcases hk3 with rfl | rfl
  ·dsimp only
   refine zn (zf (qx Y Y Y) (zo (zt (zA Y (fun h0=>?_) (fun h0=>?_)))))
   ·refine zH (zk (zt (zF (zn ?_))))
    refine zf (zD Y Y Y zva (by omega) (by exact zy7 (k:=0) (by omega)) zyQ) ?_
    refine zf (zK Y Y wX (by exact zLb Y)) ?_
    refine qP  Y Y Y Y Y Y Y zuO wX Y (by rfl) (zQ Y) Y ?_
    refine zo (zn (zf (zh Y Y) (zo (zF ?_))))
    refine qm (ι:={ k:Nat // k < 4 }) (fun k=>match k.1 with | 0=>⟨Tryz.f197.ntmps, frL [(2, .pp 0 1 0 0), (4, .pp 1 1 0 0), (6, .pub (.ptr (eBx c))), (8, .pub (.sl [eBx c])), (9, I ((([eBx c]:List (List AV)).length:Nat):Int)), (10, I 0), (14, I 0)], [.row [[I b.x0, I b.x1, I b.y0, I b.y1, I b.p0, I b.p1]], .row [[I 0, I 0, I 0, I 0, I 0, I 0]]]⟩ | 1=>⟨Tryz.f197.ntmps, frL [(2, .pp 0 1 0 0), (4, .pp 1 1 0 0), (6, .pub (.ptr (eBx c))), (8, .pub (.sl [eBx c])), (9, I ((([eBx c]:List (List AV)).length:Nat):Int)), (10, I 0), (14, I 1)], [.row [[I (max b.x0 c.x0), I (min b.x1 c.x1), I b.y0, I b.y1, I b.p0, I b.p1]], .row [[I 0, I 0, I 0, I 0, I 0, I 0]]]⟩ | 2=>⟨Tryz.f197.ntmps, frL [(2, .pp 0 1 0 0), (4, .pp 1 1 0 0), (6, .pub (.ptr (eBx c))), (8, .pub (.sl [eBx c])), (9, I ((([eBx c]:List (List AV)).length:Nat):Int)), (10, I 0), (14, I 2)], [.row [[I (max b.x0 c.x0), I (min b.x1 c.x1), I (max b.y0 c.y0), I (min b.y1 c.y1), I b.p0, I b.p1]], .row [[I 0, I 0, I 0, I 0, I 0, I 0]]]⟩ | _=>⟨Tryz.f197.ntmps, frL [(2, .pp 0 1 0 0), (4, .pp 1 1 0 0), (6, .pub (.ptr (eBx c))), (8, .pub (.sl [eBx c])), (9, I ((([eBx c]:List (List AV)).length:Nat):Int)), (10, I 0), (14, I 3)], [.row [[I (max b.x0 c.x0), I (min b.x1 c.x1), I (max b.y0 c.y0), I (min b.y1 c.y1), I (max b.p0 c.p0), I (min b.p1 c.p1)]], .row [[I 0, I 0, I 0, I 0, I 0, I 0]]]⟩) (fun k=>4 - k.1) (⟨0, by omega⟩) ?_ ?_
    ·exact zy _ ⟨Y, Y, Y, Y, Y, Y, Y, trivial⟩ (Y)
    ·rintro ⟨k, hk⟩
     have hk3:k = 0 ∨ k = 1 ∨ k = 2 ∨ k = 3:=by omega
     rcases hk3 with rfl | rfl | rfl | rfl
     ·dsimp only
      refine zn (zf (qx Y Y Y) (zo (zt (zA Y (fun h1=>?_) (fun h1=>?_)))))
      ·refine zH (zk (zt (zF (zn (zf (zh Y Y) (zf (zg Y Y) (zo (zt ?_))))))))
       refine zfD (fun mm=>∃ rows, mm[0]? = some (.row rows) /\ rows.length = 1) (fun k=>match k with | 21=>.writes | _=>.here) mixed (by kernel_rfl) rfl (by kernel_rfl) ⟨_, rfl, rfl⟩ ?_
       refine znG Y Y (zh Y Y) (znG Y Y (zh Y Y) (znG Y Y (zV Y Y Y Y Y qf (by omega) (by omega)) (znG Y Y (jJ Y Y Y Y zqK) (znG Y Y (zX Y Y Y Y Y Y ty3) (znG Y Y (zh Y Y) (znG Y Y (qc Y Y Y qf (by omega) (by omega)) (znG Y Y (zi Y Y zqK) (znG Y Y (zl Y Y Y ty3) (znG Y Y (zrp Y Y Y) (znG Y Y (zh Y Y) (znG Y Y (zV Y Y Y Y Y qf (by omega) (by omega)) ?_)))))))))))
       refine znG Y Y (jJ Y Y Y Y zqc) (znG Y Y (zX Y Y Y Y Y Y ty3) (znG Y Y (zh Y Y) (znG Y Y (qc Y Y Y qf (by omega) (by omega)) (znG Y Y (zi Y Y zqc) (znG Y Y (zl Y Y Y ty3) (znG Y Y (zsQ Y Y Y) ?_))))))
       refine znG Y Y (yl (cs:=[_, _]) Y ztP Y ⟨_, _, Y, (qU Y), ⟨_, _, Y, (qU Y), Y⟩⟩ (by rfl) (by simp [ofV])) ?_
       refine znG Y Y (zV Y Y Y Y Y qf (by omega) (by omega)) ?_
       refine zpt Y Y (zd0 Y Y Y Y Y Y (zQ Y) zuz (by rfl) (by rfl)) ⟨_, Y, Y⟩ ?_
       refine zfa (zk (zt ?_))
       refine qp mixed (by kernel_rfl) Y ?_
       refine zu Y (zh Y Y) (zu Y (zV Y Y Y Y Y qf (by omega) (by omega)) (zu Y (jJ Y Y Y Y zqK) (zu Y (zX Y Y Y Y Y Y ty3) (zu Y (zh Y Y) (zu Y (zV Y Y Y Y Y qf (by omega) (by omega)) (zu Y (jJ Y Y Y Y zqc) (zu Y (zX Y Y Y Y Y Y ty3) (zu Y (jB Y Y Y) (qF (zk (zA Y (fun h2=>?_) (fun h2=>?_))))))))))))
       ·exfalso; simp at h2; omega
       ·refine zH (zJ (zk (zx (zf (zW Y Y Y ⟨by omega, by omega⟩) (zf (zh Y Y) (zM ?_))))))
        exact ⟨⟨1, by omega⟩, by dsimp only; omega, (by refine zy (mem':=[.row [[I (max b.x0 c.x0), I (min b.x1 c.x1), I b.y0, I b.y1, I b.p0, I b.p1]], .row [[I 0, I 0, I 0, I 0, I 0, I 0]]]) [(2, .pp 0 1 0 0), (4, .pp 1 1 0 0), (6, .pub (.ptr (eBx c))), (8, .pub (.sl [eBx c])), (9, I ((([eBx c]:List (List AV)).length:Nat):Int)), (10, I 0), (14, I 1)] ?_ ?_; exact ⟨Y, Y, Y, Y, Y, Y, Y, trivial⟩; exact (Y))⟩
      ·exfalso; simp at h1
     ·dsimp only
      refine zn (zf (qx Y Y Y) (zo (zt (zA Y (fun h1=>?_) (fun h1=>?_)))))
      ·refine zH (zk (zt (zF (zn (zf (zh Y Y) (zf (zg Y Y) (zo (zt ?_))))))))
       refine zfD (fun mm=>∃ rows, mm[0]? = some (.row rows) /\ rows.length = 1) (fun k=>match k with | 21=>.writes | _=>.here) mixed (by kernel_rfl) rfl (by kernel_rfl) ⟨_, rfl, rfl⟩ ?_
       refine znG Y Y (zh Y Y) (znG Y Y (zh Y Y) (znG Y Y (zV Y Y Y Y Y qf (by omega) (by omega)) (znG Y Y (jJ Y Y Y Y zqK) (znG Y Y (zX Y Y Y Y Y Y ty3) (znG Y Y (zh Y Y) (znG Y Y (qc Y Y Y qf (by omega) (by omega)) (znG Y Y (zi Y Y zqK) (znG Y Y (zl Y Y Y ty3) (znG Y Y (zrp Y Y Y) (znG Y Y (zh Y Y) (znG Y Y (zV Y Y Y Y Y qf (by omega) (by omega)) ?_)))))))))))
       refine znG Y Y (jJ Y Y Y Y zqc) (znG Y Y (zX Y Y Y Y Y Y ty3) (znG Y Y (zh Y Y) (znG Y Y (qc Y Y Y qf (by omega) (by omega)) (znG Y Y (zi Y Y zqc) (znG Y Y (zl Y Y Y ty3) (znG Y Y (zsQ Y Y Y) ?_))))))
       refine znG Y Y (yl (cs:=[_, _]) Y ztP Y ⟨_, _, Y, (qU Y), ⟨_, _, Y, (qU Y), Y⟩⟩ (by rfl) (by simp [ofV])) ?_
       refine znG Y Y (zV Y Y Y Y Y qf (by omega) (by omega)) ?_
       refine zpt Y Y (zd0 Y Y Y Y Y Y (zQ Y) zuz (by rfl) (by rfl)) ⟨_, Y, Y⟩ ?_
       refine zfa (zk (zt ?_))
       refine qp mixed (by kernel_rfl) Y ?_
       refine zu Y (zh Y Y) (zu Y (zV Y Y Y Y Y qf (by omega) (by omega)) (zu Y (jJ Y Y Y Y zqK) (zu Y (zX Y Y Y Y Y Y ty3) (zu Y (zh Y Y) (zu Y (zV Y Y Y Y Y qf (by omega) (by omega)) (zu Y (jJ Y Y Y Y zqc) (zu Y (zX Y Y Y Y Y Y ty3) (zu Y (jB Y Y Y) (qF (zk (zA Y (fun h2=>?_) (fun h2=>?_))))))))))))
       ·exfalso; simp at h2; omega
       ·refine zH (zJ (zk (zx (zf (zW Y Y Y ⟨by omega, by omega⟩) (zf (zh Y Y) (zM ?_))))))
        exact ⟨⟨2, by omega⟩, by dsimp only; omega, (by refine zy (mem':=[.row [[I (max b.x0 c.x0), I (min b.x1 c.x1), I (max b.y0 c.y0), I (min b.y1 c.y1), I b.p0, I b.p1]], .row [[I 0, I 0, I 0, I 0, I 0, I 0]]]) [(2, .pp 0 1 0 0), (4, .pp 1 1 0 0), (6, .pub (.ptr (eBx c))), (8, .pub (.sl [eBx c])), (9, I ((([eBx c]:List (List AV)).length:Nat):Int)), (10, I 0), (14, I 2)] ?_ ?_; exact ⟨Y, Y, Y, Y, Y, Y, Y, trivial⟩; exact (Y))⟩
      ·exfalso; simp at h1
     ·dsimp only
      refine zn (zf (qx Y Y Y) (zo (zt (zA Y (fun h1=>?_) (fun h1=>?_)))))
      ·refine zH (zk (zt (zF (zn (zf (zh Y Y) (zf (zg Y Y) (zo (zt ?_))))))))
       refine zfD (fun mm=>∃ rows, mm[0]? = some (.row rows) /\ rows.length = 1) (fun k=>match k with | 21=>.writes | _=>.here) mixed (by kernel_rfl) rfl (by kernel_rfl) ⟨_, rfl, rfl⟩ ?_
       refine znG Y Y (zh Y Y) (znG Y Y (zh Y Y) (znG Y Y (zV Y Y Y Y Y qf (by omega) (by omega)) (znG Y Y (jJ Y Y Y Y zqK) (znG Y Y (zX Y Y Y Y Y Y ty3) (znG Y Y (zh Y Y) (znG Y Y (qc Y Y Y qf (by omega) (by omega)) (znG Y Y (zi Y Y zqK) (znG Y Y (zl Y Y Y ty3) (znG Y Y (zrp Y Y Y) (znG Y Y (zh Y Y) (znG Y Y (zV Y Y Y Y Y qf (by omega) (by omega)) ?_)))))))))))
       refine znG Y Y (jJ Y Y Y Y zqc) (znG Y Y (zX Y Y Y Y Y Y ty3) (znG Y Y (zh Y Y) (znG Y Y (qc Y Y Y qf (by omega) (by omega)) (znG Y Y (zi Y Y zqc) (znG Y Y (zl Y Y Y ty3) (znG Y Y (zsQ Y Y Y) ?_))))))
       refine znG Y Y (yl (cs:=[_, _]) Y ztP Y ⟨_, _, Y, (qU Y), ⟨_, _, Y, (qU Y), Y⟩⟩ (by rfl) (by simp [ofV])) ?_
       refine znG Y Y (zV Y Y Y Y Y qf (by omega) (by omega)) ?_
       refine zpt Y Y (zd0 Y Y Y Y Y Y (zQ Y) zuz (by rfl) (by rfl)) ⟨_, Y, Y⟩ ?_
       refine zfa (zk (zt ?_))
       refine qp mixed (by kernel_rfl) Y ?_
       refine zu Y (zh Y Y) (zu Y (zV Y Y Y Y Y qf (by omega) (by omega)) (zu Y (jJ Y Y Y Y zqK) (zu Y (zX Y Y Y Y Y Y ty3) (zu Y (zh Y Y) (zu Y (zV Y Y Y Y Y qf (by omega) (by omega)) (zu Y (jJ Y Y Y Y zqc) (zu Y (zX Y Y Y Y Y Y ty3) (zu Y (jB Y Y Y) (qF (zk (zA Y (fun h2=>?_) (fun h2=>?_))))))))))))
       ·exfalso; simp at h2; omega
       ·refine zH (zJ (zk (zx (zf (zW Y Y Y ⟨by omega, by omega⟩) (zf (zh Y Y) (zM ?_))))))
        exact ⟨⟨3, by omega⟩, by dsimp only; omega, (by refine zy (mem':=[.row [[I (max b.x0 c.x0), I (min b.x1 c.x1), I (max b.y0 c.y0), I (min b.y1 c.y1), I (max b.p0 c.p0), I (min b.p1 c.p1)]], .row [[I 0, I 0, I 0, I 0, I 0, I 0]]]) [(2, .pp 0 1 0 0), (4, .pp 1 1 0 0), (6, .pub (.ptr (eBx c))), (8, .pub (.sl [eBx c])), (9, I ((([eBx c]:List (List AV)).length:Nat):Int)), (10, I 0), (14, I 3)] ?_ ?_; exact ⟨Y, Y, Y, Y, Y, Y, Y, trivial⟩; exact (Y))⟩
      ·exfalso; simp at h1
     ·dsimp only
      refine zn (zf (qx Y Y Y) (zo (zt (zA Y (fun h1=>?_) (fun h1=>?_)))))
      ·exfalso; simp at h1
      ·refine qg (zS (zS (qh (zJ (zk (zx (zf (zW Y Y Y ⟨by omega, by omega⟩) (zf (zh Y Y) (zM ?_)))))))))
       exact ⟨⟨1, by omega⟩, by dsimp only; omega, (by refine zy (mem':=[.row [[I (max b.x0 c.x0), I (min b.x1 c.x1), I (max b.y0 c.y0), I (min b.y1 c.y1), I (max b.p0 c.p0), I (min b.p1 c.p1)]], .row [[I 0, I 0, I 0, I 0, I 0, I 0]]]) [(2, .pp 0 1 0 0), (4, .pp 1 1 0 0), (8, .pub (.sl [eBx c])), (9, I ((([eBx c]:List (List AV)).length:Nat):Int)), (10, I 1)] ?_ ?_; exact ⟨Y, Y, Y, Y, Y, trivial⟩; exact (Y))⟩
   ·exfalso; simp at h0
  ·dsimp only
   refine zn (zf (qx Y Y Y) (zo (zt (zA Y (fun h0=>?_) (fun h0=>?_)))))
   ·exfalso; simp at h0
   ·refine qg (zS (zS (qh (zk (zn (zf (qV (cs:=[_, _, _, _, _, _]) Y Y Y Y Y (by exact zLb Y) Y wX) ?_))))))
    refine qL Y (qw Y Y Y Y Y Y (zQ Y) wX (by rfl) (by exact zLb Y)) ?_
    refine zo (zN ?_)
    exact ⟨.inr Y, zcp Y (jd Y Y Y Y wX Y ⟨_, _, Y, AVle.refl _, ⟨_, _, Y, AVle.refl _, ⟨_, _, Y, AVle.refl _, ⟨_, _, Y, AVle.refl _, ⟨_, _, Y, AVle.refl _, ⟨_, _, Y, AVle.refl _, Y⟩⟩⟩⟩⟩⟩)⟩
end Tp
end Go.Av
end
section
namespace Go.Av
namespace Tp
set_option maxRecDepth 100000
def sp0:Sp:=⟨0, 0, 0, 0, 0⟩
def zx1 (s:Sp):Bx:=⟨s.x, s.x, s.y, s.y, s.lo, s.hi⟩
def hrL (L:List Sp) (i:Nat):Int:=(L.getD i sp0).h - (L.getD (i - 1) sp0).h
def wdL (L:List Sp) (r q:Int) (i:Nat) (b:Bx):Bx:=wide b (r * hrL L i) (r * hrL L i) (q * hrL L i)
def ownB (L:List Sp) (i:Nat):Bx:=zx1 (L.getD i sp0)
def frB (L:List Sp) (r q:Int):Nat -> Bx
 | 0=>ownB L 0
 | k + 1=>meet (ownB L (k + 1)) (wdL L r q (k + 1) (frB L r q k))
def toB (L:List Sp) (r q:Int):Nat -> Nat -> Bx
 | 0, i=>ownB L i
 | m + 1, i=>meet (ownB L i) (wdL L r q (i + 1) (toB L r q m (i + 1)))
structure SuB (L:List Sp) (r q:Int):Prop where
 n1:1 <= L.length
 n4:L.length <= 4
 r0:0 <= r /\ r <= 1000
 q0:0 <= q /\ q <= 1000
 sp:∀ i, i < L.length -> zuB (L.getD i sp0) = true
 hr:∀ i, i < L.length -> 0 <= (L.getD i sp0).h /\ (L.getD i sp0).h <= 1000
 up:∀ i, i + 1 < L.length -> (L.getD i sp0).h < (L.getD (i + 1) sp0).h
structure TrB (L:List Sp) (r q:Int) (D:List Int):Prop where
 len:D.length = L.length
 dep:∀ i, i < L.length -> (L.getD i sp0).lo <= D.getD i 0 /\ D.getD i 0 <= (L.getD i sp0).hi
 mx:∀ i, i + 1 < L.length -> max ((L.getD (i + 1) sp0).x - (L.getD i sp0).x) (-((L.getD (i + 1) sp0).x - (L.getD i sp0).x)) <= r * hrL L (i + 1)
 my:∀ i, i + 1 < L.length -> max ((L.getD (i + 1) sp0).y - (L.getD i sp0).y) (-((L.getD (i + 1) sp0).y - (L.getD i sp0).y)) <= r * hrL L (i + 1)
 md:∀ i, i + 1 < L.length -> max (D.getD (i + 1) 0 - D.getD i 0) (-(D.getD (i + 1) 0 - D.getD i 0)) <= q * hrL L (i + 1)
def Has (L:List Sp) (D:List Int) (i:Nat) (b:Bx):Prop:=
 (b.x0 <= (L.getD i sp0).x /\ (L.getD i sp0).x <= b.x1) /\ (b.y0 <= (L.getD i sp0).y /\ (L.getD i sp0).y <= b.y1) /\ b.p0 <= D.getD i 0 /\ D.getD i 0 <= b.p1
section
variable {L:List Sp} {r q:Int} {D:List Int}
theorem zvq (ht:TrB L r q D) {i:Nat} (hi:i < L.length):Has L D i (ownB L i):=
 ⟨⟨Int.le_refl _, Int.le_refl _⟩, ⟨Int.le_refl _, Int.le_refl _⟩, ht.dep i hi⟩
theorem zvy {i:Nat} {b c:Bx} (h:Has L D i b) (k:Has L D i c):Has L D i (meet b c):=by
 obtain ⟨⟨a1, a2⟩, ⟨a3, a4⟩, a5, a6⟩:=h
 obtain ⟨⟨b1, b2⟩, ⟨b3, b4⟩, b5, b6⟩:=k
 refine ⟨⟨?_, ?_⟩, ⟨?_, ?_⟩, ?_, ?_⟩ <;> simp only[meet] <;> omega
theorem zvA {i:Nat} {b:Bx} (h:Has L D i b):zxd b:=by
 obtain ⟨⟨a1, a2⟩, ⟨a3, a4⟩, a5, a6⟩:=h
 exact ⟨by omega, by omega, by omega⟩
theorem zyV (ht:TrB L r q D) {i:Nat} (hi:i + 1 < L.length) {b:Bx} (h:Has L D i b):Has L D (i + 1) (wdL L r q (i + 1) b):=by
 obtain ⟨⟨a1, a2⟩, ⟨a3, a4⟩, a5, a6⟩:=h
 have h1:=ht.mx i hi
 have h2:=ht.my i hi
 have h3:=ht.md i hi
 refine ⟨⟨?_, ?_⟩, ⟨?_, ?_⟩, ?_, ?_⟩ <;> simp only[wdL, wide] <;> omega
theorem zyD (ht:TrB L r q D) {i:Nat} (hi:i + 1 < L.length) {b:Bx} (h:Has L D (i + 1) b):Has L D i (wdL L r q (i + 1) b):=by
 obtain ⟨⟨a1, a2⟩, ⟨a3, a4⟩, a5, a6⟩:=h
 have h1:=ht.mx i hi
 have h2:=ht.my i hi
 have h3:=ht.md i hi
 refine ⟨⟨?_, ?_⟩, ⟨?_, ?_⟩, ?_, ?_⟩ <;> simp only[wdL, wide] <;> omega
theorem zvZ (ht:TrB L r q D):∀ i, i < L.length -> Has L D i (frB L r q i)
 | 0, hi=>zvq ht hi
 | k + 1, hi=>zvy (zvq ht hi) (zyV ht hi (zvZ ht k (by omega)))
theorem zv0 (ht:TrB L r q D):∀ m i, i + m < L.length -> Has L D i (toB L r q m i)
 | 0, i, hi=>zvq ht (by omega)
 | m + 1, i, hi=>zvy (zvq ht (by omega)) (zyD ht (by omega) (zv0 ht m (i + 1) (by omega)))
theorem zyv (hs:SuB L r q) {i:Nat} (hi:i + 1 < L.length):0 <= hrL L (i + 1) /\ hrL L (i + 1) <= 1000:=by
 have h1:=hs.hr i (by omega)
 have h2:=hs.hr (i + 1) hi
 have h3:=hs.up i hi
 simp only[hrL, Nat.add_sub_cancel]
 omega
theorem zvV (hs:SuB L r q) {i:Nat} (hi:i < L.length):zvI (ownB L i) 100000:=by
 have h:=hs.sp i hi
 simp [zuB, spB, -List.getD_eq_getElem?_getD] at h
 refine ⟨?_, ?_, ?_, ?_, ?_, ?_⟩ <;> simp only[ownB, zx1] <;> omega
theorem zww {b c:Bx} {n:Int} (h:zvI b n) (hn:zxd (meet b c)):zvI (meet b c) n:=by
 obtain ⟨a1, a2, a3, a4, a5, a6⟩:=h
 obtain ⟨n1, n2, n3⟩:=hn
 simp only[meet] at n1 n2 n3
 refine ⟨?_, ?_, ?_, ?_, ?_, ?_⟩ <;> simp only[meet] <;> omega
theorem zyo (ht:TrB L r q D) {i:Nat} (hi:i < L.length):zxd (frB L r q i):=zvA (zvZ ht i hi)
theorem zyk (hs:SuB L r q) (ht:TrB L r q D):∀ {i:Nat}, i < L.length -> zvI (frB L r q i) 100000
 | 0, hi=>zvV hs hi
 | k + 1, hi=>zww (zvV hs hi) (zvA (zvZ ht (k + 1) hi))
theorem zzn (hs:SuB L r q) (ht:TrB L r q D):∀ {m i:Nat}, i + m < L.length -> zvI (toB L r q m i) 100000
 | 0, i, hi=>zvV hs (by omega)
 | m + 1, i, hi=>zww (zvV hs (by omega)) (zvA (zv0 ht (m + 1) i hi))
theorem zyb {b:Bx} {n m:Int} (h:zvI b n) (hn:n <= m):zvI b m:=by
 obtain ⟨a1, a2, a3, a4, a5, a6⟩:=h
 exact ⟨by omega, by omega, by omega, by omega, by omega, by omega⟩
def whB (L:List Sp) (r q:Int) (i:Nat):Bx:=meet (frB L r q i) (toB L r q (L.length - 1 - i) i)
theorem zw2 (ht:TrB L r q D) {i:Nat} (hi:i < L.length):Has L D i (whB L r q i):=zvy (zvZ ht i hi) (zv0 ht _ i (by omega))
end
end Tp
end Go.Av
end
section
namespace Go.Av
namespace Tp
open Go.Proofs
set_option maxRecDepth 100000
set_option maxHeartbeats 1000000
variable {G:Glob}
theorem wF:fldIs Tryz.prog 199 1 5 = true:=by kernel_rfl
theorem zum:tyIs Tryz.prog 82 false 1 = true:=by kernel_rfl
theorem zla:kw Tryz.prog 82 1 = true:=by kernel_rfl
theorem kN:tyIs Tryz.prog 24 false 1 = true:=by kernel_rfl
theorem zuS:Tryz.prog.info? 202 = some Tryz.t202:=by kernel_rfl
theorem ty4:tyIs Tryz.prog 4 false 1 = true:=by kernel_rfl
theorem zv4:(Tryz.prog.info? 4).bind (·.zero) = some (.bool false):=by kernel_rfl
theorem zbX:(Tryz.prog.info? 105).bind (·.zero) = some (.agg #[.int .i64 0, .int .i64 0, .int .i64 0, .int .i64 0, .int .i64 0, .int .i64 0]):=by kernel_rfl
theorem zys:vM Tryz.prog 105 [(0, 2), (2, 2), (4, 2)] [.int .i64 0, .int .i64 0, .int .i64 0, .int .i64 0, .int .i64 0, .int .i64 0]:=⟨_, Tryz.underlying105, by kernel_rfl, by kernel_rfl⟩
def lk (i:Nat):Int:=if i = 0 then -1 else 0
def lkL (n:Nat):List Int:=(List.range n).map lk
def zuu (xs:List Int):List (List AV):=xs.map fun v=>[.sl [[Ct.ei v]]]
def sV (n:Nat):AV:=.sl (zuu (lkL n))
theorem zuM {xs:List Int} {i:Nat} {k:Int} (h:i < xs.length) (hk:k = (i:Int)):(zuu xs)[k.toNat]? = some [.sl [[Ct.ei (xs.getD i 0)]]]:=by subst hk; simp [zuu, h]
theorem zus {xs:List Int}:∀ q ∈ zuu xs, q.length = 1:=fun q hq=>by
 obtain ⟨t, _, rfl⟩:=List.mem_map.1 hq; rfl
theorem zu0 (xs:List Int):(zuu xs).length = xs.length:=by simp [zuu]
theorem zu1 (n:Nat):(lkL n).length = n:=by simp [lkL]
theorem zxe {n i:Nat} (h:i < n):(lkL n).getD i 0 = lk i:=by simp [lkL, h]
theorem zvj {n i:Nat} {k:Int} (h:i < n) (hk:k = (i:Int)):(zuu (lkL n))[k.toNat]? = some [.sl [[Ct.ei (lk i)]]]:=by
 rw [zuM (by rw [zu1]; exact h) hk, zxe h]
theorem zu4 {n:Nat}:∀ q ∈ zuu (lkL n), q.length = 1:=zus
theorem zwr {L:List Sp} {r q:Int} {i:Nat} (h:i + 1 < L.length):toB L r q (L.length - 1 - i) i = meet (ownB L i) (wdL L r q (i + 1) (toB L r q (L.length - 1 - (i + 1)) (i + 1))):=by
 rw [show L.length - 1 - i = (L.length - 1 - (i + 1)) + 1 by omega]; rfl
theorem zwS {L:List Sp} {r q:Int} {i:Nat} (h:i + 1 = L.length):toB L r q (L.length - 1 - i) i = ownB L i:=by
 rw [show L.length - 1 - i = 0 by omega]; rfl
theorem zu9 {i:Nat} (h:0 < i):lk i = 0:=by unfold lk; rw [if_neg (by omega)]
theorem zwe {L:List Sp} {r q:Int} {i:Nat} (h:0 < i):frB L r q i = meet (ownB L i) (wdL L r q i (frB L r q (i - 1))):=by
 cases i with
 | zero=>omega
 | succ k=>rfl
theorem zyM {L:List Sp} {i:Nat} (h:i < L.length):eSp L[i] = eBx (ownB L i):=by
 unfold ownB; rw [List.getD_eq_getElem?_getD, List.getElem?_eq_getElem h]; rfl
theorem zy0 {L:List Sp} {k:Nat} (h:k + 1 < L.length):L[k + 1].h - L[k].h = hrL L (k + 1):=by
 unfold hrL
 rw [List.getD_eq_getElem?_getD, List.getElem?_eq_getElem h, Nat.add_sub_cancel, List.getD_eq_getElem?_getD, List.getElem?_eq_getElem (show k < L.length by omega)]; rfl
theorem zwf (L:List Sp) (r q:Int) (V:AV) (i:Nat) (hi:i < L.length) (k:Int) (hk:k = (i:Int)):ACall Tryz.prog G 99 [.agg (eLk L r q V), Ct.ei k, Ct.ei 0] (.agg (eBx (ownB L i))):=by
 subst hk; rw [← zyM hi]; exact f99 L r q V i hi
theorem zwP {L:List Sp} {r q:Int} (hs:SuB L r q) (V:AV) (i:Nat) (h0:0 < i) (hi:i < L.length) (k:Int) (hk:k = (i:Int)):ACall Tryz.prog G 101 [.agg (eLk L r q V), Ct.ei k] (Ct.ei (hrL L i)):=by
 subst hk
 obtain ⟨j, rfl⟩:∃ j, i = j + 1:=⟨i - 1, by omega⟩
 rw [← zy0 hi]
 have h1:=hs.hr j (by omega)
 have h2:=hs.hr (j + 1) hi
 rw [List.getD_eq_getElem?_getD, List.getElem?_eq_getElem (show j < L.length by omega)] at h1
 rw [List.getD_eq_getElem?_getD, List.getElem?_eq_getElem hi] at h2
 have:=f101 (G:=G) L r q V j hs.n4 hi (by simpa using h1) (by simpa using h2)
 rwa [show ((j:Int) + 1) = ((j + 1:Nat):Int) by omega] at this
theorem zxx {L:List Sp} {r q:Int} (hs:SuB L r q) (V:AV) (b:Bx) (hb:zvI b 100000) (i:Nat) (h0:0 < i) (hi:i < L.length):ACall Tryz.prog G 249 [.agg (eLk L r q V), .agg (eBx b), Ct.ei (hrL L i)] (.agg (eBx (wdL L r q i b))):=by
 obtain ⟨j, rfl⟩:∃ j, i = j + 1:=⟨i - 1, by omega⟩
 exact f249 L r q _ V b (zyb hb (by omega)) hs.r0 hs.q0 (zyv hs hi)
theorem f200 {L:List Sp} {r q:Int} (hs:SuB L r q) (i:Nat) (hi:i < L.length) (k:Int) (hk:k = (i:Int)):ACall Tryz.prog G 200 [.agg (eLk L r q (sV L.length)), Ct.ei k, Ct.ei 0] (Ct.ei (if i + 1 = L.length then -1 else 0)):=by
 have h4:=hs.n4
 refine zO Tryz.func200 Y (by kernel_rfl) Y ?_
 refine zn (zf (ql Y (zQ Y)) (zf (zg Y Y) (zo (zt (zn (zf (zh Y Y) (zf (zW Y Y Y ⟨by omega, by omega⟩) (zf (zi Y Y zuN) ?_))))))))
 refine zf (zi Y Y zdQ) (zf (zl Y Y Y zuq) (zf (qA Y Y Y Tryz.underlying97) (zf (qR Y Y Y) (zo (zA Y (fun h0=>?_) (fun h0=>?_))))))
 ·have he:i + 1 = L.length:=by have:=h0; simp at this; omega
  refine zn (zf (zg Y Y) (zo (zN (zP ?_))))
  exact ⟨.inr Y, AVle.of (by rw [if_pos he]; rfl)⟩
 ·have he:¬ i + 1 = L.length:=by have:=h0; simp at this; omega
  refine zH (zk (zn (zf (zi Y Y wF) (zf (zl Y Y Y zum) (zf (zh Y Y) (zf (zW Y Y Y ⟨by omega, by omega⟩) ?_))))))
  refine zf (zD Y Y Y zla (by omega) (zvj (show i + 1 < L.length by omega) (by omega)) zu4) ?_
  refine zf (zl Y Y Y kN) (zf (zh Y Y) (zf (zB (av:=[_, _]) Y ⟨Y, Y, trivial⟩ (f195 (lk (i + 1)) 0)) (zf (zg Y Y) (zo (zN ?_)))))
  exact ⟨.inr Y, AVle.of (by rw [if_neg he, zu9 (by omega)]; rfl)⟩
theorem zyx {L:List Sp} {r q:Int} {D:List Int} (hs:SuB L r q) (ht:TrB L r q D) (i:Nat) (hi:i < L.length) (k:Int) (hk:k = (i:Int)) (ih:∀ j:Int, j = k - 1 -> 0 < i -> ACall Tryz.prog G 198 [.agg (eLk L r q (sV L.length)), Ct.ei j, Ct.ei 0] (.agg (eBx (frB L r q (i - 1))))):ACall Tryz.prog G 198 [.agg (eLk L r q (sV L.length)), Ct.ei k, Ct.ei 0] (.agg (eBx (frB L r q i))):=by
 have h4:=hs.n4
 refine zO Tryz.func198 Y (by kernel_rfl) Y ?_
 refine zn (zf (ql Y (zQ Y)) (qL Y (jr Y Y zuO Y Y) (zo (zn (zf (zK Y Y zup (by exact zLb Y)) (zf (zh Y Y) (zf (zh Y Y) (zf (zB (av:=[_, _, _]) Y ⟨Y, Y, Y, trivial⟩ (zwf L r q _ i hi k hk)) ?_))))))))
 refine qL Y (jr Y Y zuO Y Y) ?_
 refine qL Y (qw Y Y Y Y Y Y (zQ Y) wX (by rfl) (by exact zLb Y)) ?_
 refine zo (zt (zn (zf (zh Y Y) (zf (jB Y Y Y) (zf (zh Y Y) (zC Y (fun hg=>zi Y Y wF) (zC Y (fun hg=>zl Y (if_pos hg) Y zum) (zC Y (fun hg=>zh Y Y) (zC Y (fun hg=>zD Y (if_pos hg) (if_pos hg) zla (by omega) (zvj hi hk) zu4) ?_)))))))))
 refine zC Y (fun hg=>zl Y (if_pos hg) Y kN) (zC Y (fun hg=>zh Y Y) ?_)
 refine zC Y (fun hg=>zD Y (if_pos hg) (if_pos hg) zjc (by omega) (by exact zuD (k:=0) (by omega)) zut) ?_
 refine zC Y (fun hg=>zl Y (if_pos hg) Y ty3) (zC Y (fun hg=>kG Y (if_pos hg) Y) (zf (jg Y Y Y Y) (zo (zA Y (fun h0=>?_) (fun h0=>?_)))))
 ·have hp:0 < i:=by have:=h0; simp at this; omega
  have hlk:lk i = 0:=zu9 hp
  refine zfD (fun _=>True) (fun k=>match k with | 20=>.writes | _=>.here) mixed (by kernel_rfl) rfl (by kernel_rfl) trivial ?_
  refine znG Y Y (qV (cs:=[_, _, _, _, _, _]) Y Y Y Y Y (by exact zLb Y) Y wX) (znG Y Y (zK Y Y zup (by exact zLb Y)) (znG Y Y (zK Y Y zup (by exact zLb Y)) (znG Y Y (zh Y Y) (znG Y Y (vN Y Y Y ⟨by omega, by omega⟩) (znG Y Y (zi Y Y wF) (znG Y Y (zl Y Y Y zum) (znG Y Y (zh Y Y) (znG Y Y (zD Y Y Y zla (by omega) (zvj hi hk) zu4) (znG Y Y (zl Y Y Y kN) (znG Y Y (zh Y Y) ?_))))))))))
  refine znG Y Y (zD Y Y Y zjc (by omega) (by exact zuD (k:=0) (by omega)) zut) ?_
  refine znG Y Y (zl Y Y Y ty3) (znG Y Y (zB (av:=[_, _, _]) Y ⟨Y, Y, Y, trivial⟩ (hlk ▸ ih _ Y hp)) (znG Y Y (zK Y Y zup (by exact zLb Y)) (znG Y Y (zh Y Y) (znG Y Y (zB (av:=[_, _]) Y ⟨Y, Y, trivial⟩ (zwP hs _ i hp hi k hk)) (znG Y Y (zB (av:=[_, _, _]) Y ⟨Y, Y, Y, trivial⟩ (zxx hs _ _ (zyk hs ht (by omega)) i hp hi)) ?_)))))
  refine znG Y Y (qy (size:=6) (rows:=[[_, _, _, _, _, _]]) Y Tryz.underlying353 zuS Y (by decide) Y (by decide) ⟨_, _, Y, (zQ Y), Y⟩ (by rfl) (by simp [ofV]) Y (by simp)) ?_
  refine znG Y Y (zB (av:=[_, _]) Y ⟨Y, Y, trivial⟩ (f197 _ _ (zwe hp ▸ zyo ht hi))) ?_
  refine zpt Y Y (zd0 Y Y Y Y Y Y (zQ Y) wX (by rfl) (by rfl)) trivial ?_
  refine zfa (zk (zn (zf (qV (cs:=[_, _, _, _, _, _]) Y Y Y Y Y (by exact zLb Y) Y wX) ?_)))
  refine qL Y (qw Y Y Y Y Y Y (zQ Y) wX (by rfl) (by exact zLb Y)) ?_
  refine zo (zN ?_)
  exact ⟨.inr Y, zcp Y (jd Y Y Y Y wX Y ⟨_, _, Y, AVle.of (by rw [zwe hp]), ⟨_, _, Y, AVle.of (by rw [zwe hp]), ⟨_, _, Y, AVle.of (by rw [zwe hp]), ⟨_, _, Y, AVle.of (by rw [zwe hp]), ⟨_, _, Y, AVle.of (by rw [zwe hp]), ⟨_, _, Y, AVle.of (by rw [zwe hp]), Y⟩⟩⟩⟩⟩⟩)⟩
 ·have hz:i = 0:=by have:=h0; simp only[lk] at this; split at this <;> simp at this <;> omega
  refine zH (zk (zn (zf (qV (cs:=[_, _, _, _, _, _]) Y Y Y Y Y (by exact zLb Y) Y wX) ?_)))
  refine qL Y (qw Y Y Y Y Y Y (zQ Y) wX (by rfl) (by exact zLb Y)) ?_
  refine zo (zN ?_)
  exact ⟨.inr Y, zcp Y (jd Y Y Y Y wX Y ⟨_, _, Y, AVle.of (by rw [hz]; rfl), ⟨_, _, Y, AVle.of (by rw [hz]; rfl), ⟨_, _, Y, AVle.of (by rw [hz]; rfl), ⟨_, _, Y, AVle.of (by rw [hz]; rfl), ⟨_, _, Y, AVle.of (by rw [hz]; rfl), ⟨_, _, Y, AVle.of (by rw [hz]; rfl), Y⟩⟩⟩⟩⟩⟩)⟩
theorem zyn {L:List Sp} {r q:Int} {D:List Int} (hs:SuB L r q) (ht:TrB L r q D) (i:Nat) (hi:i < L.length) (k:Int) (hk:k = (i:Int)) (ih:∀ j:Int, j = k + 1 -> i + 1 < L.length -> ACall Tryz.prog G 199 [.agg (eLk L r q (sV L.length)), Ct.ei j, Ct.ei 0] (.agg (eBx (toB L r q (L.length - 1 - (i + 1)) (i + 1))))):ACall Tryz.prog G 199 [.agg (eLk L r q (sV L.length)), Ct.ei k, Ct.ei 0] (.agg (eBx (toB L r q (L.length - 1 - i) i))):=by
 have h4:=hs.n4
 refine zO Tryz.func199 Y (by kernel_rfl) Y ?_
 refine zn (zf (ql Y (zQ Y)) (qL Y (jr Y Y zuO Y Y) (zo (zn (zf (zK Y Y zup (by exact zLb Y)) (zf (zh Y Y) (zf (zh Y Y) (zf (zB (av:=[_, _, _]) Y ⟨Y, Y, Y, trivial⟩ (zwf L r q _ i hi k hk)) ?_))))))))
 refine qL Y (jr Y Y zuO Y Y) ?_
 refine qL Y (qw Y Y Y Y Y Y (zQ Y) wX (by rfl) (by exact zLb Y)) ?_
 refine zo (zt (zn (zf (zK Y Y zup (by exact zLb Y)) (zf (zh Y Y) (zf (zh Y Y) (zf (zB (av:=[_, _, _]) Y ⟨Y, Y, Y, trivial⟩ (f200 hs i hi k hk)) (zf (zg Y Y) (zo ?_))))))))
 refine zn (zf (zh Y Y) (zf (kG Y Y Y) (zo (zA Y (fun h0=>?_) (fun h0=>?_)))))
 ·have hp:i + 1 < L.length:=by have:=h0; simp at this; omega
  have hlk:(if i + 1 = L.length then (-1:Int) else 0) = 0:=if_neg (by omega)
  refine zfD (fun _=>True) (fun k=>match k with | 14=>.writes | _=>.here) mixed (by kernel_rfl) rfl (by kernel_rfl) trivial ?_
  refine znG Y Y (qV (cs:=[_, _, _, _, _, _]) Y Y Y Y Y (by exact zLb Y) Y wX) (znG Y Y (zK Y Y zup (by exact zLb Y)) (znG Y Y (zK Y Y zup (by exact zLb Y)) (znG Y Y (zh Y Y) (znG Y Y (zW Y Y Y ⟨by omega, by omega⟩) (znG Y Y (zh Y Y) (znG Y Y (zB (av:=[_, _, _]) Y ⟨Y, Y, Y, trivial⟩ (hlk ▸ ih _ Y hp)) (znG Y Y (zK Y Y zup (by exact zLb Y)) (znG Y Y (zh Y Y) (znG Y Y (zW Y Y Y ⟨by omega, by omega⟩) (znG Y Y (zB (av:=[_, _]) Y ⟨Y, Y, trivial⟩ (zwP hs _ (i + 1) (by omega) hp _ (by omega))) (znG Y Y (zB (av:=[_, _, _]) Y ⟨Y, Y, Y, trivial⟩ (zxx hs _ _ (zzn hs ht (by omega)) (i + 1) (by omega) hp)) ?_)))))))))))
  refine znG Y Y (qy (size:=6) (rows:=[[_, _, _, _, _, _]]) Y Tryz.underlying353 zuS Y (by decide) Y (by decide) ⟨_, _, Y, (zQ Y), Y⟩ (by rfl) (by simp [ofV]) Y (by simp)) ?_
  refine znG Y Y (zB (av:=[_, _]) Y ⟨Y, Y, trivial⟩ (f197 _ _ (zwr hp ▸ zvA (zv0 ht _ i (by omega))))) ?_
  refine zpt Y Y (zd0 Y Y Y Y Y Y (zQ Y) wX (by rfl) (by rfl)) trivial ?_
  refine zfa (zk (zn (zf (qV (cs:=[_, _, _, _, _, _]) Y Y Y Y Y (by exact zLb Y) Y wX) ?_)))
  refine qL Y (qw Y Y Y Y Y Y (zQ Y) wX (by rfl) (by exact zLb Y)) ?_
  refine zo (zN ?_)
  exact ⟨.inr Y, zcp Y (jd Y Y Y Y wX Y ⟨_, _, Y, AVle.of (by rw [zwr hp]), ⟨_, _, Y, AVle.of (by rw [zwr hp]), ⟨_, _, Y, AVle.of (by rw [zwr hp]), ⟨_, _, Y, AVle.of (by rw [zwr hp]), ⟨_, _, Y, AVle.of (by rw [zwr hp]), ⟨_, _, Y, AVle.of (by rw [zwr hp]), Y⟩⟩⟩⟩⟩⟩)⟩
 ·have hz:i + 1 = L.length:=by have:=h0; simp at this; omega
  refine zH (zk (zn (zf (qV (cs:=[_, _, _, _, _, _]) Y Y Y Y Y (by exact zLb Y) Y wX) ?_)))
  refine qL Y (qw Y Y Y Y Y Y (zQ Y) wX (by rfl) (by exact zLb Y)) ?_
  refine zo (zN ?_)
  exact ⟨.inr Y, zcp Y (jd Y Y Y Y wX Y ⟨_, _, Y, AVle.of (by rw [zwS hz]), ⟨_, _, Y, AVle.of (by rw [zwS hz]), ⟨_, _, Y, AVle.of (by rw [zwS hz]), ⟨_, _, Y, AVle.of (by rw [zwS hz]), ⟨_, _, Y, AVle.of (by rw [zwS hz]), ⟨_, _, Y, AVle.of (by rw [zwS hz]), Y⟩⟩⟩⟩⟩⟩)⟩
theorem f198 {L:List Sp} {r q:Int} {D:List Int} (hs:SuB L r q) (ht:TrB L r q D):∀ (i:Nat), i < L.length -> ∀ k:Int, k = (i:Int) -> ACall Tryz.prog G 198 [.agg (eLk L r q (sV L.length)), Ct.ei k, Ct.ei 0] (.agg (eBx (frB L r q i)))
 | 0, hi, k, hk=>zyx hs ht 0 hi k hk (fun _ _ h=>absurd h (by omega))
 | i + 1, hi, k, hk=>zyx hs ht (i + 1) hi k hk (fun j hj _=>f198 hs ht i (by omega) j (by omega))
theorem f199 {L:List Sp} {r q:Int} {D:List Int} (hs:SuB L r q) (ht:TrB L r q D) (m:Nat):∀ (i:Nat), i + m + 1 = L.length -> ∀ k:Int, k = (i:Int) -> ACall Tryz.prog G 199 [.agg (eLk L r q (sV L.length)), Ct.ei k, Ct.ei 0] (.agg (eBx (toB L r q (L.length - 1 - i) i))):=by
 induction m with
 | zero=>exact fun i hi k hk=>zyn hs ht i (by omega) k hk (fun _ _ h=>absurd h (by omega))
 | succ m ih=>exact fun i hi k hk=>zyn hs ht i (by omega) k hk (fun j hj _=>ih (i + 1) (by omega) j (by omega))
theorem zwV (mem:List PO):zms Tryz.prog G 288 [.pp 0 1 0 0, .pp 1 1 0 0] none mem mem:=by
 refine zlu Tryz.func288 Y (by kernel_rfl) Y Y Y Y Y Y (fun gh=>?_)
 refine zF (zn (zf (zsl Y Y Tryz.underlying20) (zo (zA Y (fun h0=>?_) (fun h0=>?_)))))
 ·refine zx (zf (zg Y Y) (zM (zJ ?_)))
  exact ⟨.inl Y, Y, Y⟩
 ·exfalso; simp at h0
theorem f248 {L:List Sp} {r q:Int} (hs:SuB L r q) (V:AV) (i:Nat) (h0:0 < i) (hi:i < L.length) (k:Int) (hk:k = (i:Int)) (b:Bx) (hb:zvI b 100000) (hn:zxd (meet (ownB L i) (wdL L r q i b))):ACall Tryz.prog G 248 [.agg (eLk L r q V), Ct.ei k, Ct.ei 0, .agg (eBx b)] (.tup [.agg (eBx (meet (ownB L i) (wdL L r q i b))), .v (.bool true)]):=by
 refine zdW Tryz.func248 Y (by kernel_rfl) Y ?_
 refine zn (zf (ql Y (zQ Y)) (zf (ql Y (zQ Y)) (qL Y (jr Y Y zuO Y Y) (qL Y (jr Y Y zv4 Y Y) (zo (zn (zf (vP Y) ?_)))))))
 refine zfg Y Y Y Y ?_
 refine zo (zt ?_)
 refine zfD (fun _=>True) (fun k=>match k with | 12=>.writes | 13=>.writes | _=>.here) mixed (by kernel_rfl) rfl (by kernel_rfl) trivial ?_
 refine znG Y Y (zK Y Y zup (by exact zLb Y)) (znG Y Y (zh Y Y) (znG Y Y (zh Y Y) (znG Y Y (zB (av:=[_, _, _]) Y ⟨Y, Y, Y, trivial⟩ (zwf L r q _ i hi k hk)) (znG Y Y (zK Y Y zup (by exact zLb Y)) (znG Y Y (zK Y Y wX (by exact zLb Y)) (znG Y Y (zK Y Y zup (by exact zLb Y)) (znG Y Y (zh Y Y) (znG Y Y (zB (av:=[_, _]) Y ⟨Y, Y, trivial⟩ (zwP hs _ i h0 hi k hk)) (znG Y Y (zB (av:=[_, _, _]) Y ⟨Y, Y, Y, trivial⟩ (zxx hs _ _ hb i h0 hi)) ?_)))))))))
 refine znG Y Y (qy (size:=6) (rows:=[[_, _, _, _, _, _]]) Y Tryz.underlying353 zuS Y (by decide) Y (by decide) ⟨_, _, Y, (zQ Y), Y⟩ (by rfl) (by simp [ofV]) Y (by simp)) ?_
 refine znG Y Y (zB (av:=[_, _]) Y ⟨Y, Y, trivial⟩ (f197 _ _ hn)) ?_
 refine zpt Y Y (zd0 Y Y Y Y Y Y (zQ Y) wX (by rfl) (by rfl)) trivial ?_
 refine zpt Y Y (zd0 Y Y Y Y Y Y (qU Y) ty4 (by rfl) (by rfl)) trivial ?_
 refine zfa (zk (zN ?_))
 exact .inr ⟨10, 288, _, _, _, Y, Y, ⟨_, Y, ⟨_, _, Y, (jd Y Y Y Y wX Y (by exact ⟨_, _, Y, (AVle.refl _), ⟨_, _, Y, (AVle.refl _), ⟨_, _, Y, (AVle.refl _), ⟨_, _, Y, (AVle.refl _), ⟨_, _, Y, (AVle.refl _), ⟨_, _, Y, (AVle.refl _), Y⟩⟩⟩⟩⟩⟩)), ⟨_, _, Y, (wH Y Y Y Y ty4 Y (by exact AVle.refl _)), Y⟩⟩⟩, .inl ⟨.inr Y, zwV _⟩⟩
theorem f108 (b:Bx):ACall Tryz.prog G 108 [.agg (eBx b)] (.agg (eBx b)):=by
 refine zO Tryz.func108 Y (by kernel_rfl) Y ?_
 refine zn (zf (ql Y (zQ Y)) (qL Y (jr Y Y zbX Y Y) (zo (zn (zf (qc Y Y Y qf (by omega) (by omega)) (zf (zK Y Y zuz (by exact zLb Y)) (zf (qc Y Y Y qf (by omega) (by omega)) (zf (zK Y Y zuz (by exact zLb Y)) ?_))))))))
 refine zf (qc Y Y Y qf (by omega) (by omega)) (zf (zK Y Y zuz (by exact zLb Y)) ?_)
 refine zf (yl (cs:=[_, _, _, _, _, _]) Y zys Y ⟨_, _, Y, (zQ Y), ⟨_, _, Y, (zQ Y), ⟨_, _, Y, (zQ Y), Y⟩⟩⟩ (by rfl) (by simp [ofV])) ?_
 refine qL Y (qw Y Y Y Y Y Y (zQ Y) zby (by rfl) (by exact zLb Y)) ?_
 refine zo (zN ?_)
 exact ⟨.inr Y, zcp Y (jd Y Y Y Y zby Y ⟨_, _, Y, AVle.refl _, ⟨_, _, Y, AVle.refl _, ⟨_, _, Y, AVle.refl _, ⟨_, _, Y, AVle.refl _, ⟨_, _, Y, AVle.refl _, ⟨_, _, Y, AVle.refl _, Y⟩⟩⟩⟩⟩⟩)⟩
theorem f107 (L:List Sp) (r q:Int) (h4:L.length <= 4) (i:Nat) (hi:i < L.length) (k:Int) (hk:k = (i:Int)):ACall Tryz.prog G 107 [.agg (eSu L r q), Ct.ei k, Ct.ei 0] (.v (.bool true)):=by
 have hln:(L.map eLm).length = L.length:=by simp
 have h1n:([eSp L[i]]:List (List AV)).length = 1:=rfl
 refine zO Tryz.func107 Y (by kernel_rfl) Y ?_
 refine zn (zf (ql Y (zQ Y)) (zf (zg Y Y) (zo (zn (zf (zh Y Y) (zf (zi Y Y zdQ) (zf (zl Y Y Y zuq) (zf (qA Y Y Y Tryz.underlying97) ?_))))))))
 refine zf (vN Y Y Y ⟨by omega, by omega⟩) ?_
 refine zf (zB (av:=[_, _, _]) Y ⟨Y, Y, Y, trivial⟩ (f98 _ _ _)) (zf (zh Y Y) (zC Y (fun hg=>zh Y Y) (zC Y (fun hg=>zi Y Y zdQ) (zC Y (fun hg=>zl Y (if_pos hg) Y zuq) (zC Y (fun hg=>zh Y Y) (zC Y (fun hg=>zD Y (if_pos hg) (if_pos hg) zur (by omega) (zvb hi hk) zun) (zC Y (fun hg=>zi Y (if_pos hg) zG) (zC Y (fun hg=>zl Y (if_pos hg) Y zuo) (zC Y (fun hg=>qA Y Y (if_pos hg) Tryz.underlying106) ?_)))))))))
 refine zC Y (fun hg=>vN Y (if_pos hg) Y ⟨(by first | omega | (simp at hg; omega)), (by first | omega | (simp at hg; omega))⟩) ?_
 refine zC Y (fun hg=>zB (av:=[_, _, _]) Y ⟨((if_pos hg)), Y, ((if_pos hg)), trivial⟩ (f98 _ _ _)) (zf (jg Y Y Y Y) (zf (zg Y Y) (zo (zN ?_))))
 exact ⟨.inr Y, AVle.of (by simp [Ct.inB]; omega)⟩
end Tp
end Go.Av
end
