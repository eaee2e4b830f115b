import Derived.Test.YtgmbdadkbominaaGreatDoorRfB
import Derived.Test.YtgmbdadkbominaaGreatDoorChB
import Derived.Test.YtgmbdadkbominaaGreatDoorPlatE
set_option linter.unusedVariables false
set_option linter.unusedSimpArgs false
section
namespace Go.Av
namespace Hs
open Go.Proofs
set_option maxRecDepth 100000
set_option maxHeartbeats 1000000
variable {G:Glob}
theorem zGi:tyIs Tryz.prog 133 true 3 = true:=by kernel_rfl
theorem f209 (a l h:Int):ACall Tryz.prog G 209 [ei a, ei l, ei h] (.v (.bool (inB a l h))):=by
 refine zO Tryz.func209 rfl (by kernel_rfl) rfl ?_
 refine zn (jy rfl rfl (zg rfl rfl) (zo (zn (jy rfl rfl (zh rfl rfl) (jy rfl rfl (zh rfl rfl) (jy rfl rfl (kG rfl rfl rfl) (jy rfl rfl (zh rfl rfl) (zjW rfl rfl rfl (fun hg=>zh rfl rfl) ?_))))))))
 refine zjW rfl rfl rfl (fun hg=>zh rfl rfl) (zjW rfl rfl rfl (fun hg=>zbt rfl (if_pos hg) (if_pos hg)) (jy rfl rfl (jg rfl rfl rfl rfl) (jy rfl rfl (zg rfl rfl) (zo (zN ?_)))))
 exact ⟨.inr rfl, AVle.of (by simp [inB])⟩
theorem f215 (a l h:Int):ACall Tryz.prog G 215 [ei a, ei l, ei h] (.v (.bool (inB a l h))):=by
 refine zO Tryz.func215 rfl (by kernel_rfl) rfl ?_
 refine zn (jy rfl rfl (zg rfl rfl) (zo (zn (jy rfl rfl (zh rfl rfl) (jy rfl rfl (zh rfl rfl) (jy rfl rfl (kG rfl rfl rfl) (jy rfl rfl (zh rfl rfl) (zjW rfl rfl rfl (fun hg=>zh rfl rfl) ?_))))))))
 refine zjW rfl rfl rfl (fun hg=>zh rfl rfl) (zjW rfl rfl rfl (fun hg=>zbt rfl (if_pos hg) (if_pos hg)) (jy rfl rfl (jg rfl rfl rfl rfl) (jy rfl rfl (zg rfl rfl) (zo (zN ?_)))))
 exact ⟨.inr rfl, AVle.of (by simp [inB])⟩
theorem f208 (a b c:Int):ACall Tryz.prog G 208 [.agg [ei a, ei b, ei c]] (.v (.bool (zC3 a b c))):=by
 refine zO Tryz.func208 rfl (by kernel_rfl) rfl ?_
 refine zn (jy rfl rfl (ql rfl (zQ rfl)) (jy rfl rfl (zg rfl rfl) (zo (zn (jy rfl rfl (zi rfl rfl zEb) (jy rfl rfl (zl rfl rfl rfl ty3) (jy rfl rfl (zB (av:=[_, _, _]) rfl ⟨rfl, rfl, rfl, trivial⟩ (f209 _ _ _)) (jy rfl rfl (zh rfl rfl) ?_))))))))
 refine zjW rfl rfl rfl (fun hg=>zi rfl rfl zEi) (zjW rfl rfl rfl (fun hg=>zl rfl (if_pos hg) rfl ty3) (zjW rfl rfl rfl (fun hg=>zB (av:=[_, _, _]) rfl ⟨((if_pos hg)), rfl, rfl, trivial⟩ (f209 _ _ _)) (jy rfl rfl (jg rfl rfl rfl rfl) (jy rfl rfl (zh rfl rfl) (zjW rfl rfl rfl (fun hg=>zi rfl rfl zEj) (zjW rfl rfl rfl (fun hg=>zl rfl (if_pos hg) rfl ty3) (zjW rfl rfl rfl (fun hg=>zB (av:=[_, _, _]) rfl ⟨((if_pos hg)), rfl, rfl, trivial⟩ (f209 _ _ _)) (jy rfl rfl (jg rfl rfl rfl rfl) (jy rfl rfl (zg rfl rfl) (zo ?_))))))))))
 refine zN ?_
 exact ⟨.inr rfl, AVle.of (by simp [zC3, Bool.and_assoc])⟩
theorem f210 (a b c:Int) (hp:zC3 a b c = true):ACall Tryz.prog G 210 [.agg [ei a, ei b, ei c], ei 0] (.top):=by
 simp only[zC3, zLa, zz6] at hp
 refine zO Tryz.func210 rfl (by kernel_rfl) rfl ?_
 refine zn (jy rfl rfl (ql rfl (zQ rfl)) (jy rfl rfl (zg rfl rfl) (zo (zn (jy rfl rfl (zi rfl rfl zEj) (jy rfl rfl (zl rfl rfl rfl ty3) (jy rfl rfl (zh rfl rfl) ?_)))))))
 refine jy rfl rfl (ya rfl rfl rfl ⟨by omega, by omega⟩) ?_
 refine jy rfl rfl (zg rfl rfl) (zo (zn (jy rfl rfl (zh rfl rfl) ?_)))
 refine jy rfl rfl (zCm rfl rfl rfl ⟨by omega, by omega, by omega⟩) ?_
 refine jy rfl rfl (zg rfl rfl) (zo (zt (zn (jy rfl rfl (zh rfl rfl) ?_))))
 refine jy rfl rfl (ku rfl rfl rfl ⟨by omega, by omega⟩) ?_
 refine jy rfl rfl (qx rfl rfl rfl) (zo (zA rfl (fun h0=>?_) (fun h0=>?_)))
 ·exfalso; simp at h0
 ·refine zH (zk (zn (jy rfl rfl (zi rfl rfl zEi) (jy rfl rfl (zl rfl rfl rfl ty3) (jy rfl rfl (zi rfl rfl zEb) (jy rfl rfl (zl rfl rfl rfl ty3) (jy rfl rfl (zh rfl rfl) ?_)))))))
  refine jy rfl rfl (zW rfl rfl rfl ⟨by simp; omega, by simp; omega⟩) ?_
  refine jy rfl rfl (zrp rfl rfl rfl) (jy rfl rfl (zg rfl rfl) (zo (zN ?_)))
  exact ⟨.inr rfl, AVle.top _⟩
theorem f129 (a b c:Int) (hp:zC3 a b c = true):ACall Tryz.prog G 129 [.agg [ei a, ei b, ei c], ei 0] (.tup [.top, ei 0]):=by
 refine zO Tryz.func129 rfl (by kernel_rfl) rfl ?_
 refine zn (jy rfl rfl (ql rfl (zQ rfl)) (jy rfl rfl (zg rfl rfl) (jy rfl rfl (zg rfl rfl) (zo (zt (zn (jy rfl rfl (zK rfl rfl zFC (by exact zLb rfl)) (jy rfl rfl (zB (av:=[_]) rfl ⟨rfl, trivial⟩ (f208 a b c)) ?_))))))))
 refine jy rfl rfl (qJ rfl rfl) (jy rfl rfl (zh rfl rfl) (zjW rfl rfl rfl (fun hg=>zh rfl rfl) (zjW rfl rfl rfl (fun hg=>zB (av:=[_, _, _]) rfl ⟨((if_pos hg)), rfl, rfl, trivial⟩ (f209 _ _ _)) (zjW rfl rfl rfl (fun hg=>qJ rfl (if_pos hg)) (jy rfl rfl (jf rfl rfl rfl rfl) (zo (zA rfl (fun h0=>?_) (fun h0=>?_))))))))
 ·exfalso; simp [hp, inB] at h0
 ·refine zH (zk (zn (jy rfl rfl (zK rfl rfl zFC (by exact zLb rfl)) (jy rfl rfl (zh rfl rfl) (jy rfl rfl (zB (av:=[_, _]) rfl ⟨rfl, rfl, trivial⟩ (f210 a b c hp)) (jy rfl rfl (qG rfl rfl) (jy rfl rfl (zg rfl rfl) (zo (zN ?_)))))))))
  exact ⟨.inr rfl, ⟨_, rfl, ⟨_, _, rfl, AVle.top _, ⟨_, _, rfl, AVle.refl _, rfl⟩⟩⟩⟩
theorem f211 (x lo hi:Int):ACall Tryz.prog G 211 [ei x, ei lo, ei hi] (.v (.bool (Wr.inB x lo hi))):=Wr.f107 x lo hi
theorem f130 (a b c:Int) (hp:zC7 a b c = true):ACall Tryz.prog G 130 [.agg [ei a, ei b, ei c], ei 0, ei 1] (.tup [.top, ei 0]):=by
 simp only[zC7, zLa, zz6] at hp
 refine zO Tryz.func130 rfl (by kernel_rfl) rfl ?_
 refine zn (jy rfl rfl (ql rfl (zQ rfl)) (jy rfl rfl (zg rfl rfl) (jy rfl rfl (zg rfl rfl) (zo (zt (zn (jy rfl rfl (zi rfl rfl zEd) (jy rfl rfl (zl rfl rfl rfl ty3) ?_))))))))
 refine jy rfl rfl (zB (av:=[_, _, _]) rfl ⟨rfl, rfl, rfl, trivial⟩ (f211 _ _ _)) (jy rfl rfl (qJ rfl rfl) (jy rfl rfl (zh rfl rfl) (zjW rfl rfl rfl (fun hg=>zi rfl rfl zEh) (zjW rfl rfl rfl (fun hg=>zl rfl (if_pos hg) rfl ty3) (zjW rfl rfl rfl (fun hg=>zB (av:=[_, _, _]) rfl ⟨((if_pos hg)), rfl, rfl, trivial⟩ (f211 _ _ _)) (zjW rfl rfl rfl (fun hg=>qJ rfl (if_pos hg)) (jy rfl rfl (jf rfl rfl rfl rfl) (jy rfl rfl (zh rfl rfl) (zjW rfl rfl rfl (fun hg=>zi rfl rfl zEa) (zjW rfl rfl rfl (fun hg=>zl rfl (if_pos hg) rfl ty3) (zjW rfl rfl rfl (fun hg=>zB (av:=[_, _, _]) rfl ⟨((if_pos hg)), rfl, rfl, trivial⟩ (f211 _ _ _)) ?_)))))))))))
 refine zjW rfl rfl rfl (fun hg=>qJ rfl (if_pos hg)) (jy rfl rfl (jf rfl rfl rfl rfl) (jy rfl rfl (zh rfl rfl) (zjW rfl rfl rfl (fun hg=>zh rfl rfl) (zjW rfl rfl rfl (fun hg=>zB (av:=[_, _, _]) rfl ⟨((if_pos hg)), rfl, rfl, trivial⟩ (f211 _ _ _)) (zjW rfl rfl rfl (fun hg=>qJ rfl (if_pos hg)) (jy rfl rfl (jf rfl rfl rfl rfl) (jy rfl rfl (zh rfl rfl) (zjW rfl rfl rfl (fun hg=>zh rfl rfl) (zjW rfl rfl rfl (fun hg=>zB (av:=[_, _, _]) rfl ⟨((if_pos hg)), rfl, rfl, trivial⟩ (f211 _ _ _)) (zjW rfl rfl rfl (fun hg=>qJ rfl (if_pos hg)) (jy rfl rfl (jf rfl rfl rfl rfl) ?_)))))))))))
 refine zo (zA rfl (fun h0=>?_) (fun h0=>?_))
 ·exfalso; simp [Wr.inB] at h0; omega
 ·refine zH (zk (zn (jy rfl rfl (zi rfl rfl zEd) (jy rfl rfl (zl rfl rfl rfl ty3) (jy rfl rfl (zi rfl rfl zEh) (jy rfl rfl (zl rfl rfl rfl ty3) (jy rfl rfl (zh rfl rfl) (jy rfl rfl (zi rfl rfl zEa) (jy rfl rfl (zl rfl rfl rfl ty3) ?_)))))))))
  refine jy rfl rfl (vN rfl rfl rfl ⟨by omega, by omega⟩) ?_
  refine jy rfl rfl (zrp rfl rfl rfl) ?_
  refine jy rfl rfl (ya rfl rfl rfl ⟨by rw [show max (0:Int) (0 - b) = 0 by omega]; omega, by rw [show max (0:Int) (0 - b) = 0 by omega]; omega⟩) ?_
  refine jy rfl rfl (zW rfl rfl rfl ⟨by rw [show max (0:Int) (0 - b) = 0 by omega]; omega, by rw [show max (0:Int) (0 - b) = 0 by omega]; omega⟩) ?_
  refine jy rfl rfl (zg rfl rfl) (zo (zn (jy rfl rfl (zh rfl rfl) (jy rfl rfl (zh rfl rfl) ?_))))
  refine jy rfl rfl (vN rfl rfl rfl ⟨by omega, by omega⟩) ?_
  refine jy rfl rfl (zh rfl rfl) ?_
  refine jy rfl rfl (zW rfl rfl rfl ⟨by rw [show max (0:Int) (0 - b) = 0 by omega]; omega, by rw [show max (0:Int) (0 - b) = 0 by omega]; omega⟩) ?_
  refine jy rfl rfl (zCm rfl rfl rfl ⟨by rw [show max (0:Int) (0 - b) = 0 by omega]; omega, by rw [show max (0:Int) (0 - b) = 0 by omega]; omega, by omega⟩) ?_
  refine jy rfl rfl (ya rfl rfl rfl ⟨by rw [show ((1:Int) - 1) = 0 by omega, Int.zero_mul]; omega, by rw [show ((1:Int) - 1) = 0 by omega, Int.zero_mul]; omega⟩) ?_
  refine jy rfl rfl (zW rfl rfl rfl ⟨by rw [show max (0:Int) (0 - b) = 0 by omega, show ((1:Int) - 1) = 0 by omega, Int.zero_mul]; omega, by rw [show max (0:Int) (0 - b) = 0 by omega, show ((1:Int) - 1) = 0 by omega, Int.zero_mul]; omega⟩) ?_
  refine jy rfl rfl (zg rfl rfl) (jy rfl rfl (zg rfl rfl) (zo (zN ?_)))
  exact ⟨.inr rfl, ⟨_, rfl, ⟨_, _, rfl, AVle.top _, ⟨_, _, rfl, AVle.refl _, rfl⟩⟩⟩⟩
theorem f131 (c:Wr.Cod) (hc:c.fields.length <= 1000 /\ c.turns.length <= 1000) (hk:Wr.codB c = true):ACall Tryz.prog G 131 [.agg (Wr.eCod c)] (ei 0):=by
 refine zO Tryz.func131 rfl (by kernel_rfl) rfl ?_
 refine zn (jy rfl rfl (ql rfl (zQ rfl)) (jy rfl rfl (zg rfl rfl) (zo (zt (zn (jy rfl rfl (zK rfl rfl zjk (by exact zLb rfl)) (jy rfl rfl (zB (av:=[_]) rfl ⟨rfl, trivial⟩ (Wr.f116 c hc)) (jy rfl rfl (qJ rfl rfl) ?_))))))))
 refine zo (zA rfl (fun h0=>?_) (fun h0=>?_))
 ·exfalso; simp [hk] at h0
 ·refine zH (zk (zn (jy rfl rfl (zg rfl rfl) (zo (zN ?_)))))
  exact ⟨.inr rfl, AVle.refl _⟩
theorem f132 (m:Ct.Mp) (hk:Ct.mapB m = true):ACall Tryz.prog G 132 [.agg (Ct.eMp m)] (ei 0):=by
 refine zO Tryz.func132 rfl (by kernel_rfl) rfl ?_
 refine zn (jy rfl rfl (ql rfl (zQ rfl)) (jy rfl rfl (zg rfl rfl) (zo (zt (zn (jy rfl rfl (zK rfl rfl zf2 (by exact zLb rfl)) (jy rfl rfl (zB (av:=[_]) rfl ⟨rfl, trivial⟩ (Ct.f99 m)) (jy rfl rfl (qJ rfl rfl) ?_))))))))
 refine zo (zA rfl (fun h0=>?_) (fun h0=>?_))
 ·exfalso; simp [hk] at h0
 ·refine zH (zk (zn (jy rfl rfl (zg rfl rfl) (zo (zN ?_)))))
  exact ⟨.inr rfl, AVle.refl _⟩
theorem f53 (s:Sut):ACall Tryz.prog G 53 [.agg (eSut s)] (.agg (Ct.eMp (mpS s))):=by
 refine zO Tryz.func53 rfl (by kernel_rfl) rfl ?_
 refine zn (jy rfl rfl (ql rfl (zQ rfl)) (qL rfl (jr rfl rfl ztQ rfl rfl) (zo (zn (jy rfl rfl (zi rfl rfl zEm) (jy rfl rfl (zl rfl rfl rfl ty3) (jy rfl rfl (zi rfl rfl zEf) (jy rfl rfl (zl rfl rfl rfl ty3) ?_))))))))
 refine jy rfl rfl (zi rfl rfl zET) (jy rfl rfl (zl rfl rfl rfl ty3) ?_)
 refine jy rfl rfl (yl (cs:=[_, _, _, _]) rfl zuj rfl ⟨_, _, rfl, (qU rfl), ⟨_, _, rfl, (qU rfl), ⟨_, _, rfl, (qU rfl), rfl⟩⟩⟩ (by rfl) (by simp [ofV])) ?_
 refine qL rfl (qw rfl rfl rfl rfl rfl rfl (zQ rfl) zf2 (by rfl) (by exact zLb rfl)) ?_
 refine zo (zN ?_)
 exact ⟨.inr rfl, zcp rfl (jd rfl rfl rfl rfl zf2 rfl ⟨_, _, rfl, AVle.refl _, ⟨_, _, rfl, AVle.refl _, ⟨_, _, rfl, AVle.refl _, ⟨_, _, rfl, AVle.nil, rfl⟩⟩⟩⟩)⟩
theorem f263 (x:Int):ACall Tryz.prog G 263 [ei x] (.v (.bool (!inB x 0 100))):=by
 refine zO Tryz.func263 rfl (by kernel_rfl) rfl ?_
 refine zn (jy rfl rfl (zg rfl rfl) (zo (zn (jy rfl rfl (zh rfl rfl) (jy rfl rfl (zB (av:=[_, _, _]) rfl ⟨rfl, rfl, rfl, trivial⟩ (f209 _ _ _)) (jy rfl rfl (qJ rfl rfl) (jy rfl rfl (zg rfl rfl) (zM ?_))))))))
 refine zk (zN ?_)
 exact ⟨.inr rfl, AVle.refl _⟩
theorem f313 {p:Int -> Bool} (c:FuncId) (cs:List AV) (xs:List Int) (hx:xs.length <= 1000000) (hp:∀ x ∈ xs, ACall Tryz.prog G c ([ei x] ++ cs) (.v (.bool (p x)))):ACall Tryz.prog G 313 [.sl (xs.map (fun x=>[ei x])), .fn c [] cs] (ei (ixF p xs)):=by
 have hlm:(xs.map (fun x=>[ei x])).length = xs.length:=by simp
 refine zO Tryz.func313 rfl (by kernel_rfl) rfl ?_
 refine zn (jy rfl rfl (zg rfl rfl) (zo (zt (zn (jy rfl rfl (zI rfl rfl) (jy rfl rfl (qA rfl rfl rfl Tryz.underlying24) (jy rfl rfl (zh rfl rfl) (zM ?_))))))))
 refine zk (zF ?_)
 refine qm (ι:={ k:Nat // k <= xs.length /\ ∀ j (hj:j < xs.length), j < k -> p xs[j] = false }) (fun k=>⟨Tryz.f313.ntmps, frL [(0, .pub (.sl (xs.map (fun x=>[ei x])))), (1, .pub (.fn c [] cs)), (7, I (((xs.map (fun x=>[ei x])).length:Nat):Int)), (8, I (k.1:Int))], []⟩) (fun k=>xs.length - k.1) (⟨0, by omega, fun j _ h=>absurd h (by omega)⟩) ?_ ?_
 ·exact zy _ ⟨rfl, rfl, rfl, rfl, trivial⟩ (rfl)
 ·rintro ⟨k, hk⟩
  dsimp only
  refine zn (jy rfl rfl (qx rfl rfl rfl) (zo (zt (zA rfl (fun h0=>?_) (fun h0=>?_)))))
  ·have hlt:k < xs.length:=by simpa using h0
   refine zH (zk (zt (zF (zn (jy rfl rfl (zh rfl rfl) (jy rfl rfl (zg rfl rfl) (zo (zn ?_))))))))
   refine jy rfl rfl (zI rfl rfl) (jy rfl rfl (zI rfl rfl) (jy rfl rfl (zh rfl rfl) ?_))
   refine jy rfl rfl (zD rfl rfl rfl zjc (by omega) (by exact zBh hlt) (zz7 fun _=>rfl)) ?_
   refine jy rfl rfl (zl rfl rfl rfl ty3) (jy rfl rfl (vH (av:=[_]) rfl rfl ⟨rfl, trivial⟩ (hp xs[k] (List.getElem_mem hlt))) (zo (zA rfl (fun h1=>?_) (fun h1=>?_))))
   ·refine zn (jy rfl rfl (zh rfl rfl) (jy rfl rfl (zg rfl rfl) (zo (zN (zZ (zP (zP (zZ (zP ?_)))))))))
    exact ⟨.inr rfl, AVle.of (by rw [zE1 hlt h1 hk.2])⟩
   ·refine zH (zJ (zk (zx (jy rfl rfl (zW rfl rfl rfl ⟨by omega, by omega⟩) (jy rfl rfl (zh rfl rfl) (zM ?_))))))
    exact ⟨⟨k + 1, by omega, fun j hj h=>(Nat.lt_succ_iff_lt_or_eq.1 h).elim (hk.2 j hj) (fun e=>by subst e; exact h1)⟩, by dsimp only; omega, zy _ ⟨rfl, rfl, rfl, rfl, trivial⟩ (rfl)⟩
  ·have hge:k = xs.length:=by simp at h0; omega
   refine zAj (zS (zS (zAi (zk (zn (jy rfl rfl (zg rfl rfl) (zo (zN ?_))))))))
   exact ⟨.inr rfl, AVle.of (by rw [zE3 (fun j hj=>hk.2 j hj (by omega))])⟩
theorem f261 {p:Int -> Bool} (c:FuncId) (cs:List AV) (xs:List Int) (hx:xs.length <= 1000000) (hp:∀ x ∈ xs, ACall Tryz.prog G c ([ei x] ++ cs) (.v (.bool (p x)))):ACall Tryz.prog G 261 [.sl (xs.map (fun x=>[ei x])), .fn c [] cs] (.v (.bool (xs.any p))):=by
 refine zO Tryz.func261 rfl (by kernel_rfl) rfl ?_
 refine zn (jy rfl rfl (zg rfl rfl) (zo (zn (jy rfl rfl (zI rfl rfl) (jy rfl rfl (zI rfl rfl) (jy rfl rfl (zB (av:=[_, _]) rfl ⟨rfl, rfl, trivial⟩ (f313 c cs xs hx hp)) (jy rfl rfl (kG rfl rfl rfl) (jy rfl rfl (zg rfl rfl) ?_))))))))
 refine zo (zN ?_)
 exact ⟨.inr rfl, AVle.of (by rw [zEk])⟩
theorem zGq (c:FuncId) (cs:List AV):ACall Tryz.prog G 314 [.v (.slice none 0 0), .fn c [] cs] (ei (-1)):=by
 refine zO Tryz.func314 rfl (by kernel_rfl) rfl ?_
 refine zn (jy rfl rfl (zg rfl rfl) (zo (zt (zn (jy rfl rfl (zh rfl rfl) (jy rfl rfl (zz2 rfl rfl Tryz.underlying82) (jy rfl rfl (zh rfl rfl) (zM ?_))))))))
 refine zk (zF ?_)
 refine qm (ι:={ k:Nat // k < 1 }) (fun k=>match k.1 with | _=>⟨Tryz.f314.ntmps, frL [(0, .pub (.v (.slice none 0 0))), (1, .pub (.fn c [] cs)), (7, I 0), (8, I 0)], []⟩) (fun k=>1 - k.1) (⟨0, by omega⟩) ?_ ?_
 ·exact zy _ ⟨rfl, rfl, rfl, rfl, trivial⟩ (rfl)
 ·rintro ⟨k, hk⟩
  have hk3:k = 0:=by omega
  rcases hk3 with rfl
  ·dsimp only
   refine zn (jy rfl rfl (qx rfl rfl rfl) (zo (zt (zA rfl (fun h0=>?_) (fun h0=>?_)))))
   ·exfalso; simp at h0
   ·refine zAj (zS (zS (zAi (zk (zn (jy rfl rfl (zg rfl rfl) (zo (zN ?_))))))))
    exact ⟨.inr rfl, AVle.refl _⟩
theorem zF2 (c:FuncId) (cs:List AV):ACall Tryz.prog G 264 [.v (.slice none 0 0), .fn c [] cs] (.v (.bool false)):=by
 refine zO Tryz.func264 rfl (by kernel_rfl) rfl ?_
 refine zn (jy rfl rfl (zg rfl rfl) (zo (zn (jy rfl rfl (zh rfl rfl) (jy rfl rfl (zI rfl rfl) (jy rfl rfl (zB (av:=[_, _]) rfl ⟨rfl, rfl, trivial⟩ (zGq c cs)) (jy rfl rfl (kG rfl rfl rfl) (jy rfl rfl (zg rfl rfl) ?_))))))))
 refine zo (zN ?_)
 exact ⟨.inr rfl, AVle.of rfl⟩
theorem f213 (c:Int) (l:List Int) (hl:l.length <= 1000):ACall Tryz.prog G 213 [.agg [ei c, eI l, .v (.slice none 0 0)]] (.v (.bool (s6B c l))):=by
 have hm:(l.map fun n=>[ei n]).length = l.length:=by simp
 have hany:(!(l.any fun x=>!inB x 0 100)) = l.all fun x=>inB x 0 100:=by rw [List.not_any_eq_all_not]; simp
 refine zO Tryz.func213 rfl (by kernel_rfl) rfl ?_
 refine zn (jy rfl rfl (ql rfl (zQ rfl)) (jy rfl rfl (zg rfl rfl) (zo (zn (jy rfl rfl (zi rfl rfl zEH) (jy rfl rfl (zl rfl rfl rfl ty3) (jy rfl rfl (zB (av:=[_, _, _]) rfl ⟨rfl, rfl, rfl, trivial⟩ (f209 _ _ _)) (jy rfl rfl (zh rfl rfl) ?_))))))))
 refine zjW rfl rfl rfl (fun hg=>zi rfl rfl zDN) (zjW rfl rfl rfl (fun hg=>zl rfl (if_pos hg) rfl kN) (zjW rfl rfl rfl (fun hg=>qA rfl rfl (if_pos hg) Tryz.underlying24) (zjW rfl rfl rfl (fun hg=>zB (av:=[_, _, _]) rfl ⟨((if_pos hg)), rfl, rfl, trivial⟩ (f209 _ _ _)) (jy rfl rfl (jg rfl rfl rfl rfl) (jy rfl rfl (zh rfl rfl) (zjW rfl rfl rfl (fun hg=>zi rfl rfl zDW) (zjW rfl rfl rfl (fun hg=>zl rfl (if_pos hg) rfl zum) (zjW rfl rfl rfl (fun hg=>zz2 rfl (if_pos hg) Tryz.underlying82) (zjW rfl rfl rfl (fun hg=>zbt rfl (if_pos hg) rfl) (jy rfl rfl (jg rfl rfl rfl rfl) (jy rfl rfl (zh rfl rfl) ?_)))))))))))
 refine zjW rfl rfl rfl (fun hg=>zi rfl rfl zDN) (zjW rfl rfl rfl (fun hg=>zl rfl (if_pos hg) rfl kN) (zjW rfl rfl rfl (fun hg=>zB (av:=[_, _]) rfl ⟨((if_pos hg)), rfl, trivial⟩ (f261 263 [] l (by omega) (fun x _=>f263 x))) (zjW rfl rfl rfl (fun hg=>qJ rfl (if_pos hg)) (jy rfl rfl (jg rfl rfl rfl rfl) (jy rfl rfl (zh rfl rfl) (zjW rfl rfl rfl (fun hg=>zi rfl rfl zDW) (zjW rfl rfl rfl (fun hg=>zl rfl (if_pos hg) rfl zum) (zjW rfl rfl rfl (fun hg=>wC (fs:=[]) (cs:=[_]) rfl rfl rfl) (zjW rfl rfl rfl (fun hg=>zB (av:=[_, _]) rfl ⟨((if_pos hg)), ((if_pos hg)), trivial⟩ (zF2 265 _)) (zjW rfl rfl rfl (fun hg=>qJ rfl (if_pos hg)) (jy rfl rfl (jg rfl rfl rfl rfl) ?_)))))))))))
 refine jy rfl rfl (zg rfl rfl) (zo (zN ?_))
 exact ⟨.inr rfl, AVle.of (by rw [s6B, ← hany, hm]; cases hv1:inB c 2 3 <;> cases hv2:inB (l.length:Int) 1 3 <;> cases hv3:(l.any fun x=>!inB x 0 100) <;> simp)⟩
theorem f133 (c:Int) (l:List Int) (hl:l.length <= 1000) (hk:s6B c l = true):ACall Tryz.prog G 133 [.agg [ei c, eI l, .v (.slice none 0 0)]] (ei 0):=by
 refine zO Tryz.func133 rfl (by kernel_rfl) rfl ?_
 refine zn (jy rfl rfl (ql rfl (zQ rfl)) (jy rfl rfl (zg rfl rfl) (zo (zt (zn (jy rfl rfl (zK rfl rfl zGi (by exact zLb rfl)) (jy rfl rfl (zB (av:=[_]) rfl ⟨rfl, trivial⟩ (f213 c l hl)) (jy rfl rfl (qJ rfl rfl) ?_))))))))
 refine zo (zA rfl (fun h0=>?_) (fun h0=>?_))
 ·exfalso; simp [hk] at h0
 ·refine zH (zk (zn (jy rfl rfl (zg rfl rfl) (zo (zN ?_)))))
  exact ⟨.inr rfl, AVle.refl _⟩
end Hs
end Go.Av
end
section
namespace Go.Av
namespace Hs
open Go.Proofs
set_option maxRecDepth 100000
set_option maxHeartbeats 1000000
variable {G:Glob}
theorem zDF:fldIs Tryz.prog 328 0 0 = true:=by kernel_rfl
def eGs (g:Gls):List AV:=[ei g.hl, ei g.hh, ei g.gl, ei g.gh, ei g.dr, ei g.rd, ei g.ea, ei g.sl, .sl (g.ck.map eChk), .top]
theorem zDT {a b:Int} {k:Nat} (h:k < 2):([[ei a], [ei b]]:List (List AV))[k]? = some [ei (if k = 0 then a else b)]:=by
 have:k = 0 ∨ k = 1:=by omega
 rcases this with rfl | rfl <;> rfl
theorem zDQ {a b:Int}:∀ q ∈ ([[ei a], [ei b]]:List (List AV)), q.length = 1:=fun q hq=>by
 simp only[List.mem_cons, List.not_mem_nil, or_false] at hq
 rcases hq with rfl | rfl <;> rfl
theorem f316 (a b l h:Int):ACall Tryz.prog G 316 [.agg [ei a, ei b], ei l, ei h] (.v (.bool (zCQ a b l h))):=by
 refine zO Tryz.func316 rfl (by kernel_rfl) rfl ?_
 refine zn (jy rfl rfl (ql rfl (zQ rfl)) (jy rfl rfl (zg rfl rfl) (zo (zn (jy rfl rfl (zi rfl rfl zqK) (jy rfl rfl (zl rfl rfl rfl ty3) (jy rfl rfl (zh rfl rfl) (jy rfl rfl (kG rfl rfl rfl) ?_))))))))
 refine jy rfl rfl (zh rfl rfl) (zjW rfl rfl rfl (fun hg=>zi rfl rfl zqK) (zjW rfl rfl rfl (fun hg=>zl rfl (if_pos hg) rfl ty3) (zjW rfl rfl rfl (fun hg=>zi rfl rfl zqc) (zjW rfl rfl rfl (fun hg=>zl rfl (if_pos hg) rfl ty3) (zjW rfl rfl rfl (fun hg=>zbt rfl (if_pos hg) (if_pos hg)) (jy rfl rfl (jg rfl rfl rfl rfl) (jy rfl rfl (zh rfl rfl) (zjW rfl rfl rfl (fun hg=>zi rfl rfl zqc) (zjW rfl rfl rfl (fun hg=>zl rfl (if_pos hg) rfl ty3) (zjW rfl rfl rfl (fun hg=>zh rfl rfl) (zjW rfl rfl rfl (fun hg=>zbt rfl (if_pos hg) (if_pos hg)) ?_)))))))))))
 refine jy rfl rfl (jg rfl rfl rfl rfl) (jy rfl rfl (zg rfl rfl) (zo (zN ?_)))
 exact ⟨.inr rfl, AVle.of (by simp [zCQ, Bool.and_assoc])⟩
theorem f315 (c:Chk):ACall Tryz.prog G 315 [.agg (eChk c)] (.v (.bool (zCw c))):=by
 refine zO Tryz.func315 rfl (by kernel_rfl) rfl ?_
 refine zn (jy rfl rfl (ql rfl (zQ rfl)) (jy rfl rfl (zg rfl rfl) (zo (zn (jy rfl rfl (zi rfl rfl zDA) (jy rfl rfl (zl rfl rfl rfl ty3) (jy rfl rfl (zB (av:=[_, _, _]) rfl ⟨rfl, rfl, rfl, trivial⟩ (f215 _ _ _)) (jy rfl rfl (zh rfl rfl) ?_))))))))
 refine zjW rfl rfl rfl (fun hg=>zi rfl rfl zDt) (zjW rfl rfl rfl (fun hg=>zK rfl (if_pos hg) zuz (by exact zLb rfl)) (zjW rfl rfl rfl (fun hg=>zB (av:=[_, _, _]) rfl ⟨((if_pos hg)), rfl, rfl, trivial⟩ (f316 _ _ _ _)) (jy rfl rfl (jg rfl rfl rfl rfl) (jy rfl rfl (zg rfl rfl) (zo (zN ?_))))))
 exact ⟨.inr rfl, AVle.of (by simp [zCw])⟩
theorem f267 (g:Gls) (hl:g.ck.length <= 1000):ACall Tryz.prog G 267 [.agg (zDL g)] (.v (.bool (zC1 g))):=by
 have hcl:(g.ck.map eChk).length = g.ck.length:=by simp
 refine zO Tryz.func267 rfl (by kernel_rfl) rfl ?_
 refine zn (jy rfl rfl (ql rfl (zQ rfl)) (jy rfl rfl (zg rfl rfl) (zo (zt (zn (jy rfl rfl (zi rfl rfl zA0) (jy rfl rfl (zl rfl rfl rfl zCl) (jy rfl rfl (qA rfl rfl rfl Tryz.underlying121) ?_))))))))
 refine jy rfl rfl (zh rfl rfl) (zo (zF ?_))
 refine qm (ι:={ a:Nat // (g.ck.take a).all zCw = true }) (fun a=>⟨Tryz.f267.ntmps, frL [(1, .pub (.ptr (zDL g))), (6, .pub (.sl (g.ck.map eChk))), (7, I (((g.ck.map eChk).length:Nat):Int)), (8, I (a.1:Int))], []⟩) (fun a=>g.ck.length - a.1) (⟨0, by simp⟩) ?_ ?_
 ·exact zy _ ⟨rfl, rfl, rfl, rfl, trivial⟩ (rfl)
 ·rintro ⟨a, ha⟩
  dsimp only
  refine zn (jy rfl rfl (qx rfl rfl rfl) (zo (zt (zA rfl (fun h0=>?_) (fun h0=>?_)))))
  ·have hlt:a < g.ck.length:=by simpa using h0
   refine zH (zk (zt (zF (zn ?_))))
   refine jy rfl rfl (zD rfl rfl rfl zDM (by omega) (by exact zBh (k:=a) hlt) zDJ) ?_
   refine jy rfl rfl (zK rfl rfl zDD (by exact zLb rfl)) ?_
   refine qP  rfl rfl rfl rfl rfl rfl rfl zEo zDD rfl (by rfl) (zQ rfl) rfl ?_
   refine zo (zn (jy rfl rfl (zK rfl rfl zDD (by exact zLb rfl)) (jy rfl rfl (zB (av:=[_]) rfl ⟨rfl, trivial⟩ (f315 _)) (jy rfl rfl (qJ rfl rfl) (zo (zA rfl (fun h1=>?_) (fun h1=>?_)))))))
   ·have hbad:zCw g.ck[a] = false:=by simpa using h1
    refine zn (jy rfl rfl (zg rfl rfl) (zo (zN (zZ (zP (zP (zZ (zP ?_))))))))
    exact ⟨.inr rfl, AVle.of (by rw [zC1, zDH hlt hbad]; rfl)⟩
   ·have hok:zCw g.ck[a] = true:=by simpa using h1
    refine zH (zJ (zk (zx (jy rfl rfl (zW rfl rfl rfl ⟨by omega, by omega⟩) (jy rfl rfl (zh rfl rfl) (zM ?_))))))
    exact ⟨⟨a + 1, zDz hlt ha hok⟩, by dsimp only; omega, zy _ ⟨rfl, rfl, rfl, rfl, trivial⟩ (rfl)⟩
  ·have hall:=zDG (p:=zCw) (by simpa using h0) ha
   refine zAj (zS (zS (zAi (zk (zn (jy rfl rfl (zi rfl rfl zEy) (jy rfl rfl (zK rfl rfl zuz (by exact zLb rfl)) (jy rfl rfl (zB (av:=[_, _, _]) rfl ⟨rfl, rfl, rfl, trivial⟩ (f316 _ _ _ _)) (jy rfl rfl (zh rfl rfl) (zjW rfl rfl rfl (fun hg=>zi rfl rfl zEE) ?_))))))))))
   refine zjW rfl rfl rfl (fun hg=>zK rfl (if_pos hg) zuz (by exact zLb rfl)) (zjW rfl rfl rfl (fun hg=>zB (av:=[_, _, _]) rfl ⟨((if_pos hg)), rfl, rfl, trivial⟩ (f316 _ _ _ _)) (jy rfl rfl (jg rfl rfl rfl rfl) (jy rfl rfl (zh rfl rfl) (zjW rfl rfl rfl (fun hg=>zi rfl rfl zDO) (zjW rfl rfl rfl (fun hg=>zl rfl (if_pos hg) rfl ty3) (zjW rfl rfl rfl (fun hg=>zB (av:=[_, _, _]) rfl ⟨((if_pos hg)), rfl, rfl, trivial⟩ (f215 _ _ _)) (jy rfl rfl (jg rfl rfl rfl rfl) (jy rfl rfl (zh rfl rfl) (zjW rfl rfl rfl (fun hg=>zi rfl rfl zEI) (zjW rfl rfl rfl (fun hg=>zl rfl (if_pos hg) rfl ty3) (zjW rfl rfl rfl (fun hg=>zB (av:=[_, _, _]) rfl ⟨((if_pos hg)), rfl, rfl, trivial⟩ (f215 _ _ _)) ?_)))))))))))
   refine jy rfl rfl (jg rfl rfl rfl rfl) (jy rfl rfl (zh rfl rfl) (zjW rfl rfl rfl (fun hg=>zi rfl rfl zEq) (zjW rfl rfl rfl (fun hg=>zl rfl (if_pos hg) rfl ty3) (zjW rfl rfl rfl (fun hg=>zB (av:=[_, _, _]) rfl ⟨((if_pos hg)), rfl, rfl, trivial⟩ (f215 _ _ _)) (jy rfl rfl (jg rfl rfl rfl rfl) (jy rfl rfl (zh rfl rfl) (zjW rfl rfl rfl (fun hg=>zi rfl rfl zEK) (zjW rfl rfl rfl (fun hg=>zl rfl (if_pos hg) rfl ty3) (zjW rfl rfl rfl (fun hg=>zB (av:=[_, _, _]) rfl ⟨((if_pos hg)), rfl, rfl, trivial⟩ (f215 _ _ _)) (jy rfl rfl (jg rfl rfl rfl rfl) (jy rfl rfl (zh rfl rfl) ?_)))))))))))
   refine zjW rfl rfl rfl (fun hg=>zi rfl rfl zA0) (zjW rfl rfl rfl (fun hg=>zl rfl (if_pos hg) rfl zCl) (zjW rfl rfl rfl (fun hg=>qA rfl rfl (if_pos hg) Tryz.underlying121) (zjW rfl rfl rfl (fun hg=>zbt rfl (if_pos hg) rfl) (jy rfl rfl (jg rfl rfl rfl rfl) (jy rfl rfl (zg rfl rfl) (zo (zN ?_)))))))
   exact ⟨.inr rfl, AVle.of (by rw [zC1, hall]; simp [Bool.and_assoc])⟩
theorem f271 (a b:Int):ACall Tryz.prog G 271 [.sl [[ei a], [ei b]]] (ei (max a b)):=by
 refine zO Tryz.func271 rfl (by kernel_rfl) rfl ?_
 refine zn (jy rfl rfl (zg rfl rfl) (zo (zn (jy rfl rfl (zI rfl rfl) ?_))))
 refine jy rfl rfl (zD rfl rfl rfl zjc (by omega) (by exact zDT (k:=0) (by omega)) zDQ) ?_
 refine jy rfl rfl (zl rfl rfl rfl ty3) (jy rfl rfl (zg rfl rfl) (zo (zt (zn (jy rfl rfl (zI rfl rfl) (jy rfl rfl (qA rfl rfl rfl Tryz.underlying24) (jy rfl rfl (zh rfl rfl) (zo ?_))))))))
 refine zF ?_
 refine qm (ι:={ k:Nat // k < 3 }) (fun k=>match k.1 with | 0=>⟨Tryz.f271.ntmps, frL [(3, I a), (9, .pub (.sl [[ei a], [ei b]])), (10, I 2), (11, I 0)], []⟩ | 1=>⟨Tryz.f271.ntmps, frL [(3, I a), (9, .pub (.sl [[ei a], [ei b]])), (10, I 2), (11, I 1)], []⟩ | _=>⟨Tryz.f271.ntmps, frL [(3, I (max a b)), (9, .pub (.sl [[ei a], [ei b]])), (10, I 2), (11, I 2)], []⟩) (fun k=>3 - k.1) (⟨0, by omega⟩) ?_ ?_
 ·exact zy _ ⟨rfl, rfl, rfl, rfl, trivial⟩ (rfl)
 ·rintro ⟨k, hk⟩
  have hk3:k = 0 ∨ k = 1 ∨ k = 2:=by omega
  rcases hk3 with rfl | rfl | rfl
  ·dsimp only
   refine zn (jy rfl rfl (qx rfl rfl rfl) (zo (zt (zA rfl (fun h0=>?_) (fun h0=>?_)))))
   ·refine zH (zk (zt (zF (zn ?_))))
    refine jy rfl rfl (zD rfl rfl rfl zjc (by omega) (by exact zDT (by omega)) zDQ) ?_
    refine jy rfl rfl (zl rfl rfl rfl ty3) (jy rfl rfl (zg rfl rfl) (zo (zx (jy rfl rfl (zh rfl rfl) (jy rfl rfl (zh rfl rfl) (jy rfl rfl (zrp rfl rfl rfl) (jy rfl rfl (zg rfl rfl) (zM (zJ (zk ?_))))))))))
    refine zx (jy rfl rfl (zW rfl rfl rfl ⟨by omega, by omega⟩) (jy rfl rfl (zh rfl rfl) (zM ?_)))
    exact ⟨⟨1, by omega⟩, by dsimp only; omega, (by refine zy (mem':=[]) [(3, I a), (9, .pub (.sl [[ei a], [ei b]])), (10, I 2), (11, I 1)] ?_ ?_; exact ⟨(congrArg I (Int.max_self a)), rfl, rfl, rfl, trivial⟩; exact (rfl))⟩
   ·exfalso; simp at h0
  ·dsimp only
   refine zn (jy rfl rfl (qx rfl rfl rfl) (zo (zt (zA rfl (fun h0=>?_) (fun h0=>?_)))))
   ·refine zH (zk (zt (zF (zn ?_))))
    refine jy rfl rfl (zD rfl rfl rfl zjc (by omega) (by exact zDT (by omega)) zDQ) ?_
    refine jy rfl rfl (zl rfl rfl rfl ty3) (jy rfl rfl (zg rfl rfl) (zo (zx (jy rfl rfl (zh rfl rfl) (jy rfl rfl (zh rfl rfl) (jy rfl rfl (zrp rfl rfl rfl) (jy rfl rfl (zg rfl rfl) (zM (zJ (zk ?_))))))))))
    refine zx (jy rfl rfl (zW rfl rfl rfl ⟨by omega, by omega⟩) (jy rfl rfl (zh rfl rfl) (zM ?_)))
    exact ⟨⟨2, by omega⟩, by dsimp only; omega, (by refine zy (mem':=[]) [(3, I (max a b)), (9, .pub (.sl [[ei a], [ei b]])), (10, I 2), (11, I 2)] ?_ ?_; exact ⟨rfl, rfl, rfl, rfl, trivial⟩; exact (rfl))⟩
   ·exfalso; simp at h0
  ·dsimp only
   refine zn (jy rfl rfl (qx rfl rfl rfl) (zo (zt (zA rfl (fun h0=>?_) (fun h0=>?_)))))
   ·exfalso; simp at h0
   ·refine zAj (zS (zS (zAi (zk (zn (jy rfl rfl (zh rfl rfl) (jy rfl rfl (zg rfl rfl) (zo (zN ?_)))))))))
    exact ⟨.inr rfl, AVle.refl _⟩
theorem f272 (a b:Int):ACall Tryz.prog G 272 [.sl [[ei a], [ei b]]] (ei (min a b)):=by
 refine zO Tryz.func272 rfl (by kernel_rfl) rfl ?_
 refine zn (jy rfl rfl (zg rfl rfl) (zo (zn (jy rfl rfl (zI rfl rfl) ?_))))
 refine jy rfl rfl (zD rfl rfl rfl zjc (by omega) (by exact zDT (k:=0) (by omega)) zDQ) ?_
 refine jy rfl rfl (zl rfl rfl rfl ty3) (jy rfl rfl (zg rfl rfl) (zo (zt (zn (jy rfl rfl (zI rfl rfl) (jy rfl rfl (qA rfl rfl rfl Tryz.underlying24) (jy rfl rfl (zh rfl rfl) (zo ?_))))))))
 refine zF ?_
 refine qm (ι:={ k:Nat // k < 3 }) (fun k=>match k.1 with | 0=>⟨Tryz.f272.ntmps, frL [(3, I a), (9, .pub (.sl [[ei a], [ei b]])), (10, I 2), (11, I 0)], []⟩ | 1=>⟨Tryz.f272.ntmps, frL [(3, I a), (9, .pub (.sl [[ei a], [ei b]])), (10, I 2), (11, I 1)], []⟩ | _=>⟨Tryz.f272.ntmps, frL [(3, I (min a b)), (9, .pub (.sl [[ei a], [ei b]])), (10, I 2), (11, I 2)], []⟩) (fun k=>3 - k.1) (⟨0, by omega⟩) ?_ ?_
 ·exact zy _ ⟨rfl, rfl, rfl, rfl, trivial⟩ (rfl)
 ·rintro ⟨k, hk⟩
  have hk3:k = 0 ∨ k = 1 ∨ k = 2:=by omega
  rcases hk3 with rfl | rfl | rfl
  ·dsimp only
   refine zn (jy rfl rfl (qx rfl rfl rfl) (zo (zt (zA rfl (fun h0=>?_) (fun h0=>?_)))))
   ·refine zH (zk (zt (zF (zn ?_))))
    refine jy rfl rfl (zD rfl rfl rfl zjc (by omega) (by exact zDT (by omega)) zDQ) ?_
    refine jy rfl rfl (zl rfl rfl rfl ty3) (jy rfl rfl (zg rfl rfl) (zo (zx (jy rfl rfl (zh rfl rfl) (jy rfl rfl (zh rfl rfl) (jy rfl rfl (zsQ rfl rfl rfl) (jy rfl rfl (zg rfl rfl) (zM (zJ (zk ?_))))))))))
    refine zx (jy rfl rfl (zW rfl rfl rfl ⟨by omega, by omega⟩) (jy rfl rfl (zh rfl rfl) (zM ?_)))
    exact ⟨⟨1, by omega⟩, by dsimp only; omega, (by refine zy (mem':=[]) [(3, I a), (9, .pub (.sl [[ei a], [ei b]])), (10, I 2), (11, I 1)] ?_ ?_; exact ⟨(congrArg I (Int.min_self a)), rfl, rfl, rfl, trivial⟩; exact (rfl))⟩
   ·exfalso; simp at h0
  ·dsimp only
   refine zn (jy rfl rfl (qx rfl rfl rfl) (zo (zt (zA rfl (fun h0=>?_) (fun h0=>?_)))))
   ·refine zH (zk (zt (zF (zn ?_))))
    refine jy rfl rfl (zD rfl rfl rfl zjc (by omega) (by exact zDT (by omega)) zDQ) ?_
    refine jy rfl rfl (zl rfl rfl rfl ty3) (jy rfl rfl (zg rfl rfl) (zo (zx (jy rfl rfl (zh rfl rfl) (jy rfl rfl (zh rfl rfl) (jy rfl rfl (zsQ rfl rfl rfl) (jy rfl rfl (zg rfl rfl) (zM (zJ (zk ?_))))))))))
    refine zx (jy rfl rfl (zW rfl rfl rfl ⟨by omega, by omega⟩) (jy rfl rfl (zh rfl rfl) (zM ?_)))
    exact ⟨⟨2, by omega⟩, by dsimp only; omega, (by refine zy (mem':=[]) [(3, I (min a b)), (9, .pub (.sl [[ei a], [ei b]])), (10, I 2), (11, I 2)] ?_ ?_; exact ⟨rfl, rfl, rfl, rfl, trivial⟩; exact (rfl))⟩
   ·exfalso; simp at h0
  ·dsimp only
   refine zn (jy rfl rfl (qx rfl rfl rfl) (zo (zt (zA rfl (fun h0=>?_) (fun h0=>?_)))))
   ·exfalso; simp at h0
   ·refine zAj (zS (zS (zAi (zk (zn (jy rfl rfl (zh rfl rfl) (jy rfl rfl (zg rfl rfl) (zo (zN ?_)))))))))
    exact ⟨.inr rfl, AVle.refl _⟩
theorem f319 (a b:Int) (h:(0 <= a /\ a <= 100000) /\ (0 <= b /\ b <= 100000)):ACall Tryz.prog G 319 [ei a, ei b] (ei (far a b)):=by
 refine zO Tryz.func319 rfl (by kernel_rfl) rfl ?_
 refine zn (jy rfl rfl (zg rfl rfl) (zo (zn (jy rfl rfl (zh rfl rfl) (jy rfl rfl (zh rfl rfl) ?_)))))
 refine jy rfl rfl (vN rfl rfl rfl ⟨by omega, by omega⟩) ?_
 refine jy rfl rfl (zh rfl rfl) (jy rfl rfl (zh rfl rfl) ?_)
 refine jy rfl rfl (vN rfl rfl rfl ⟨by omega, by omega⟩) ?_
 refine jy rfl rfl (qy (size:=1) (rows:=[[_], [_]]) rfl Tryz.underlying24 ti3 rfl (by decide) rfl (by decide) ⟨_, _, rfl, (qU rfl), ⟨_, _, rfl, (qU rfl), rfl⟩⟩ (by rfl) (by simp [ofV]) rfl (by simp)) ?_
 refine jy rfl rfl (zB (av:=[_]) rfl ⟨rfl, trivial⟩ (f271 _ _)) (jy rfl rfl (zg rfl rfl) (zo (zN ?_)))
 exact ⟨.inr rfl, AVle.refl _⟩
theorem f317 {g:Gls} (hs:zC1 g = true) (i j:Nat) (hi:i < g.ck.length) (hj:j < g.ck.length):ACall Tryz.prog G 317 [.agg (eGs g), .agg (eChk (ckG g i)), .agg (eChk (ckG g j))] (.v (.bool (ctB g i j))):=by
 have h1:=zD7 hs hi
 have h2:=zD7 hs hj
 have hg1:=zDZ hs
 have hmb:=zEN hg1.1 (zEM h1.1 h2.1)
 refine zO Tryz.func317 rfl (by kernel_rfl) rfl ?_
 refine zn (jy rfl rfl (ql rfl (zQ rfl)) (jy rfl rfl (ql rfl (zQ rfl)) (jy rfl rfl (ql rfl (zQ rfl)) (jy rfl rfl (zg rfl rfl) (zo (zt ?_))))))
 refine qp mixed (by kernel_rfl) rfl ?_
 refine zu rfl (zi rfl rfl zDF) (zu rfl (zi rfl rfl zDO) (zu rfl (zl rfl rfl rfl ty3) (zu rfl (zi rfl rfl zDA) (zu rfl (zl rfl rfl rfl ty3) (zu rfl (zi rfl rfl zDA) (zu rfl (zl rfl rfl rfl ty3) ?_))))))
 refine zu rfl (zB (av:=[_, _]) rfl ⟨rfl, rfl, trivial⟩ (f319 _ _ ⟨by omega, by omega⟩)) ?_
 refine zu rfl (ya rfl rfl rfl ⟨by omega, by omega⟩) ?_
 refine zu rfl (zg rfl rfl) (qF (zk (zn (jy rfl rfl (zi rfl rfl zDt) (jy rfl rfl (zi rfl rfl zqK) (jy rfl rfl (zl rfl rfl rfl ty3) (jy rfl rfl (zh rfl rfl) ?_)))))))
 refine jy rfl rfl (vN rfl rfl rfl ⟨by omega, by omega⟩) ?_
 refine jy rfl rfl (zi rfl rfl zDt) (jy rfl rfl (zi rfl rfl zqc) (jy rfl rfl (zl rfl rfl rfl ty3) (jy rfl rfl (jB rfl rfl rfl) (jy rfl rfl (zh rfl rfl) (zjW rfl rfl rfl (fun hg=>zi rfl rfl zDt) (zjW rfl rfl rfl (fun hg=>zi rfl (if_pos hg) zqK) (zjW rfl rfl rfl (fun hg=>zl rfl (if_pos hg) rfl ty3) (zjW rfl rfl rfl (fun hg=>zh rfl rfl) ?_))))))))
 refine zjW rfl rfl rfl (fun hg=>vN rfl (if_pos hg) (if_pos hg) ⟨by omega, by omega⟩) ?_
 refine zjW rfl rfl rfl (fun hg=>zi rfl rfl zDt) (zjW rfl rfl rfl (fun hg=>zi rfl (if_pos hg) zqc) (zjW rfl rfl rfl (fun hg=>zl rfl (if_pos hg) rfl ty3) (zjW rfl rfl rfl (fun hg=>jB rfl (if_pos hg) (if_pos hg)) (jy rfl rfl (jf rfl rfl rfl rfl) (jy rfl rfl (zg rfl rfl) (zo (zN ?_)))))))
 exact ⟨.inr rfl, AVle.of (by unfold ctB; congr 2; rw [Bool.eq_iff_iff]; simp only[Bool.or_eq_true, decide_eq_true_eq]; omega)⟩
end Hs
end Go.Av
end
section
namespace Go.Av
namespace Hs
open Go.Proofs
set_option maxRecDepth 100000
set_option maxHeartbeats 1000000
variable {G:Glob}
theorem ztP:vM Tryz.prog 46 [(0, 1), (1, 1)] [.int .i64 0, .int .i64 0]:=⟨_, Tryz.underlying46, by kernel_rfl, by kernel_rfl⟩
def bdQ (g:Gls) (d:Int) (c:Chk):List AV:=[.agg [ei (c.lo - g.dr * far d c.t), ei (c.hi + g.dr * far d c.t)]]
def zFs (g:Gls) (d:Int):List (List AV):=g.ck.map (bdQ g d)
theorem zy6 {g:Gls} {d:Int} {k:Nat} (h:k < g.ck.length):(zFs g d)[k]? = some (bdQ g d (ckG g k)):=by simp [zFs, ckG, h]
theorem zGb {g:Gls} (hs:zC1 g = true) (d:Int) (hd:0 <= d /\ d <= 400):zcM Tryz.prog G 318 [] [.ptr (eGs g), .ptr [ei d]] (zFs g d):=by
 have hg1:=zDZ hs
 have hcl:(g.ck.map eChk).length = g.ck.length:=by simp
 refine ze2 (qs:=zFs g d) Tryz.func318 rfl (by kernel_rfl) rfl rfl (fun C hC=>?_)
 refine jU ?_
 refine yf ?_
 refine zx (jy rfl rfl (zi rfl rfl zDF) (jy rfl rfl (zi rfl rfl zA0) (jy rfl rfl (zl rfl rfl rfl zCl) (jy rfl rfl (qA rfl rfl rfl Tryz.underlying121) ?_))))
 first | refine jy rfl rfl (zh rfl rfl) ?_ | refine jy rfl rfl (jq rfl rfl) ?_
 refine zM ?_
 refine qE ?_
 refine xG ?_
 refine zeM (ι:={ k:Nat // k <= g.ck.length }) (fun k=>⟨Tryz.f318.ntmps, frL [(0, .pub (.v (.func (.yield C.l) #[] #[]))), (1, .pub (.ptr (eGs g))), (2, .pub (.ptr [ei d])), (9, .pub (.sl (g.ck.map eChk))), (10, I (((g.ck.map eChk).length:Nat):Int)), (11, I (k.1:Int))], []⟩) (fun k=>.on k.1) (fun k=>g.ck.length - k.1) (⟨0, by omega⟩) rfl ?_ ?_
 ·exact zy _ ⟨rfl, rfl, rfl, rfl, rfl, rfl, trivial⟩ rfl
 ·rintro ⟨k, hk⟩
  dsimp only
  refine jU ?_
  refine yf ?_
  refine zx (jy rfl rfl (qx rfl rfl rfl) (zM ?_))
  refine qE ?_
  refine jU ?_
  refine vW rfl (fun h0=>?_) (fun h0=>?_)
  ·have hlt:k < g.ck.length:=by simpa using h0
   have h1:=zD7 hs hlt
   have hmb:=zEN hg1.1 (zEM hd h1.1)
   refine y5 ?_
   refine qE ?_
   refine jU ?_
   refine xG ?_
   refine jU ?_
   refine yf ?_
   refine zx ?_
   refine jy rfl rfl (zD rfl rfl rfl zDM (by omega) (by exact zD5 hlt) zDJ) ?_
   refine jy rfl rfl (zK rfl rfl zDD (by exact zLb rfl)) ?_
   refine qP rfl rfl rfl rfl rfl rfl rfl zEo zDD rfl (by rfl) (zQ rfl) rfl ?_
   refine zM ?_
   refine qE ?_
   refine zaj (zy (mem':=[]) [(0, .pub (.v (.func (.yield C.l) #[] #[]))), (1, .pub (.ptr (eGs g))), (2, .pub (.ptr [ei d])), (9, .pub (.sl (g.ck.map eChk))), (10, I (((g.ck.map eChk).length:Nat):Int)), (5, .pub (.ptr (eChk (ckG g k)))), (11, I (k:Int))] ⟨rfl, rfl, rfl, rfl, rfl, rfl, rfl, trivial⟩ rfl) ?_
   refine jU ?_
   refine yf ?_
   refine qp mixed (by kernel_rfl) rfl ?_
   refine zu rfl (zi rfl rfl zDF) (zu rfl (zi rfl rfl zDO) (zu rfl (zl rfl rfl rfl ty3) (zu rfl (zl rfl rfl rfl ty3) (zu rfl (zi rfl rfl zDA) (zu rfl (zl rfl rfl rfl ty3) ?_)))))
   refine zu rfl (zB (av:=[_, _]) rfl ⟨rfl, rfl, trivial⟩ (f319 d (ckG g k).t ⟨by omega, by omega⟩)) ?_
   refine zu rfl (ya rfl rfl rfl ⟨by omega, by omega⟩) ?_
   refine zu rfl (zg rfl rfl) (qF ?_)
   refine qE ?_
   refine jU ?_
   refine yT ?_
   refine vX rfl rfl (zh rfl rfl) ?_
   refine vX rfl rfl (zi rfl rfl zDt) ?_
   refine vX rfl rfl (zi rfl rfl zqK) ?_
   refine vX rfl rfl (zl rfl rfl rfl ty3) ?_
   refine vX rfl rfl (zh rfl rfl) ?_
   refine vX rfl rfl (vN rfl rfl rfl ⟨by omega, by omega⟩) ?_
   refine vX rfl rfl (zi rfl rfl zDt) ?_
   refine vX rfl rfl (zi rfl rfl zqc) ?_
   refine vX rfl rfl (zl rfl rfl rfl ty3) ?_
   refine vX rfl rfl (zh rfl rfl) ?_
   refine vX rfl rfl (zW rfl rfl rfl ⟨by omega, by omega⟩) ?_
   refine vX rfl rfl (yl (cs:=[_, _]) rfl ztP rfl ⟨_, _, rfl, qU rfl, ⟨_, _, rfl, qU rfl, rfl⟩⟩ (by rfl) (by simp [ofV])) ?_
   refine xJ (q:=bdQ g d (ckG g k)) (c:=true) rfl rfl rfl rfl (fun _=>rfl) (fun _=>rfl) (fun _=>by rw [hC]; exact zy6 hlt) rfl rfl rfl rfl rfl (fun h=>absurd h (by decide)) (fun _=>?_) (fun _=>?_)
   ·refine vX rfl rfl (qJ rfl rfl) ?_
    refine zas ?_
    refine qE ?_
    refine vW (b:=false) rfl (fun h=>absurd h (by decide)) (fun _=>?_)
    refine y5 ?_
    refine yS ?_
    refine qE ?_
    refine yf ?_
    refine zx (jy rfl rfl (zW rfl rfl rfl ⟨by omega, by omega⟩) ?_)
    first | refine jy rfl rfl (zh rfl rfl) ?_ | refine jy rfl rfl (jq rfl rfl) ?_
    refine zM ?_
    exact ⟨⟨k + 1, by omega⟩, by dsimp only; omega, rfl, zy _ ⟨rfl, rfl, rfl, rfl, rfl, rfl, trivial⟩ rfl⟩
   ·refine vX rfl rfl (qJ rfl rfl) ?_
    refine zas ?_
    refine qE ?_
    refine vW (b:=true) rfl (fun _=>?_) (fun h=>absurd h (by decide))
    refine zhR ?_
    refine zc9 ?_
    refine zc1 ?_
    refine zc1 ?_
    refine zc9 ?_
    exact ⟨.inr rfl, rfl, .inr ⟨_, rfl⟩⟩
  ·have hge:k = g.ck.length:=by simp at h0; omega
   subst hge
   refine zeV ?_
   refine zbc ?_
   refine zbc ?_
   refine zeP ?_
   exact ⟨.inl rfl, rfl, .inl (by simp [zFs])⟩
end Hs
end Go.Av
end
section
namespace Go.Av
namespace Hs
open Go.Proofs
set_option maxRecDepth 100000
set_option maxHeartbeats 1000000
variable {G:Glob}
theorem zDP:tyIs Tryz.prog 328 true 10 = true:=by kernel_rfl
theorem zFX {g:Gls} (h:clB g = false) {i j:Nat} (hij:i < j) (hj:j < g.ck.length):ctB g i j = false:=by
 cases hc:ctB g i j with
 | false=>rfl
 | true=>rw [zFu (by omega) hj hij hc] at h; cases h
theorem f269 {g:Gls} (hs:zC1 g = true) (hc:clB g = false):ACall Tryz.prog G 269 [.agg (eGs g)] (.tup [.top, .top, .v (.bool false)]):=by
 have hg1:=zDZ hs
 have hcl:(g.ck.map eChk).length = g.ck.length:=by simp
 refine zO Tryz.func269 rfl (by kernel_rfl) rfl ?_
 refine zn (jy rfl rfl (ql rfl (zQ rfl)) (jy rfl rfl (zg rfl rfl) (jy rfl rfl (zg rfl rfl) (jy rfl rfl (zg rfl rfl) (zo ?_)))))
 refine zFg ?_
 refine zn (jy rfl rfl (zg rfl rfl) (jy rfl rfl (zg rfl rfl) (jy rfl rfl (zg rfl rfl) (zo (zt ?_)))))
 refine zFo ?_
 refine zk (zt (zn (jy rfl rfl (zi rfl rfl zDF) (jy rfl rfl (zi rfl rfl zA0) (jy rfl rfl (zl rfl rfl rfl zCl) (jy rfl rfl (qA rfl rfl rfl Tryz.underlying121) (jy rfl rfl (zh rfl rfl) (zo (zF ?_)))))))))
 refine qm (ι:={ a:Nat // a <= g.ck.length }) (fun a=>⟨Tryz.f269.ntmps, frL [(1, .pub (.ptr (eGs g))), (5, I 0), (6, I 0), (7, B false), (13, .pub (.sl (g.ck.map eChk))), (14, I (((g.ck.map eChk).length:Nat):Int)), (15, I (a.1:Int))], []⟩) (fun a=>g.ck.length - a.1) (⟨0, by omega⟩) ?_ ?_
 ·exact zy _ ⟨rfl, rfl, rfl, rfl, rfl, rfl, rfl, trivial⟩ (rfl)
 ·rintro ⟨a, ha⟩
  dsimp only
  refine zn (jy rfl rfl (qx rfl rfl rfl) (zo (zt (zA rfl (fun h0=>?_) (fun h0=>?_)))))
  ·have hlt:a < g.ck.length:=by simpa using h0
   refine zH (zk (zt (zF (zn (jy rfl rfl (zh rfl rfl) ?_)))))
   refine jy rfl rfl (zD rfl rfl rfl zDM (by omega) (by exact zD5 (i:=a) hlt) zDJ) ?_
   refine jy rfl rfl (zK rfl rfl zDD (by exact zLb rfl)) ?_
   refine zjZ  rfl rfl rfl rfl rfl rfl rfl rfl (zg rfl rfl) rfl rfl rfl zEo zDD rfl (by rfl) (zQ rfl) rfl ?_
   refine zo (zn (jy rfl rfl (zh rfl rfl) (jy rfl rfl (zW rfl rfl rfl ⟨by omega, by omega⟩) (jy rfl rfl (zg rfl rfl) (zo (zF ?_))))))
   refine qm (ι:={ b:Nat // a + 1 <= b /\ b <= g.ck.length }) (fun b=>⟨Tryz.f269.ntmps, frL [(1, .pub (.ptr (eGs g))), (5, I 0), (6, I 0), (7, B false), (13, .pub (.sl (g.ck.map eChk))), (14, I (((g.ck.map eChk).length:Nat):Int)), (15, I (a:Int)), (8, I (a:Int)), (9, .pub (.ptr (eChk (ckG g a)))), (10, I (b.1:Int))], []⟩) (fun b=>g.ck.length - b.1) (⟨a + 1, by omega⟩) ?_ ?_
   ·exact zy _ ⟨rfl, rfl, rfl, rfl, rfl, rfl, rfl, rfl, rfl, rfl, trivial⟩ (rfl)
   ·rintro ⟨b, hb⟩
    dsimp only
    refine zt (zn (jy rfl rfl (zh rfl rfl) (jy rfl rfl (zi rfl rfl zDF) (jy rfl rfl (zi rfl rfl zA0) (jy rfl rfl (zl rfl rfl rfl zCl) (jy rfl rfl (qA rfl rfl rfl Tryz.underlying121) (jy rfl rfl (qx rfl rfl rfl) (zo (zA rfl (fun h1=>?_) (fun h1=>?_))))))))))
    ·have hbl:b < g.ck.length:=by simpa using h1
     refine zH (zk (zt (zF (zt ?_))))
     refine qp mixed (by kernel_rfl) rfl ?_
     refine zu rfl (zK rfl rfl zDP (by exact zLb rfl)) (zu rfl (zK rfl rfl zDD (by exact zLb rfl)) (zu rfl (zi rfl rfl zDF) (zu rfl (zi rfl rfl zA0) (zu rfl (zl rfl rfl rfl zCl) (zu rfl (zh rfl rfl) ?_)))))
     refine zu rfl (zD rfl rfl rfl zDM (by omega) (by exact zD5 (i:=b) hbl) zDJ) ?_
     refine zu rfl (zK rfl rfl zDD (by exact zLb rfl)) (zu rfl (zB (av:=[_, _, _]) rfl ⟨rfl, rfl, rfl, trivial⟩ (f317 hs a b (by omega) hbl)) (qF (zk (zA rfl (fun h2=>?_) (fun h2=>?_)))))
     ·exfalso; rw [zFX hc (by omega) hbl] at h2; cases h2
     ·refine zH (zJ (zk (zx (jy rfl rfl (zh rfl rfl) (jy rfl rfl (zW rfl rfl rfl ⟨by omega, by omega⟩) (jy rfl rfl (zg rfl rfl) (zM ?_)))))))
      exact ⟨⟨b + 1, by omega⟩, by dsimp only; omega, zy _ ⟨rfl, rfl, rfl, rfl, rfl, rfl, rfl, rfl, rfl, rfl, trivial⟩ (rfl)⟩
    ·refine zAj (zS (zS (zAi (zJ (zk (zx (jy rfl rfl (zW rfl rfl rfl ⟨by omega, by omega⟩) (jy rfl rfl (zh rfl rfl) (zM ?_)))))))))
     exact ⟨⟨a + 1, by omega⟩, by dsimp only; omega, zy _ ⟨rfl, rfl, rfl, rfl, rfl, rfl, rfl, trivial⟩ (rfl)⟩
  ·refine zAj (zS (zS (zAi (zk (zn (jy rfl rfl (zh rfl rfl) (jy rfl rfl (zh rfl rfl) (jy rfl rfl (zh rfl rfl) (jy rfl rfl (zg rfl rfl) (jy rfl rfl (zg rfl rfl) ?_))))))))))
   refine jy rfl rfl (zg rfl rfl) (zo (zN ?_))
   refine zFW ?_
   exact ⟨.inr rfl, ⟨_, rfl, ⟨_, _, rfl, AVle.top _, ⟨_, _, rfl, AVle.top _, ⟨_, _, rfl, AVle.refl _, rfl⟩⟩⟩⟩⟩
theorem f270 (g:Gls) (d:Int):ACall Tryz.prog G 270 [.agg (eGs g), ei d] (.fn 318 [] [.ptr (eGs g), .ptr [ei d]]):=by
 refine zO Tryz.func270 rfl (by kernel_rfl) rfl ?_
 refine zn (jy rfl rfl (ql rfl (zQ rfl)) (jy rfl rfl (ql (cs:=[_]) rfl (qU rfl)) (jy rfl rfl (zg rfl rfl) (zo (zn (jy rfl rfl (wC (fs:=[]) (cs:=[_, _]) rfl rfl rfl) (jy rfl rfl (qG rfl rfl) (zM ?_))))))))
 refine zk (zN ?_)
 exact ⟨.inr rfl, AVle.refl _⟩
end Hs
end Go.Av
end
section
namespace Go.Av
namespace Hs
open Go.Proofs
set_option maxRecDepth 100000
set_option maxHeartbeats 1000000
variable {G:Glob}
theorem zGn:elemIs Tryz.prog 121 220 3 24:=⟨Tryz.underlying121, Tryz.t220, _, by kernel_rfl, rfl, rfl, rfl, rfl, by decide⟩
theorem zGB:elemIs Tryz.prog 23 46 2 16:=⟨Tryz.underlying23, Tryz.t46, _, by kernel_rfl, rfl, rfl, rfl, rfl, by decide⟩
theorem zBU:elemIs Tryz.prog 29 48 7 56:=⟨Tryz.underlying29, Tryz.t48, _, by kernel_rfl, rfl, rfl, rfl, rfl, by decide⟩
theorem zt5:elemIs Tryz.prog 30 225 3 24:=⟨Tryz.underlying30, Tryz.t225, _, by kernel_rfl, rfl, rfl, rfl, rfl, by decide⟩
theorem zGA:elemIs Tryz.prog 31 55 4 32:=⟨Tryz.underlying31, Tryz.t55, _, by kernel_rfl, rfl, rfl, rfl, rfl, by decide⟩
theorem zCP {rows:List (List AV)} {n:Nat} (h:∀ q ∈ rows, q.length = n):∀ r ∈ rows.map (·.map EV.pub), r.length = n:=fun r hr=>by
 obtain ⟨q, hq, rfl⟩:=List.mem_map.1 hr
 rw [List.length_map]; exact h q hq
theorem f139 (l:List Int) (hl:l.length <= 1000):ACall Tryz.prog G 139 [.sl (l.map (fun n=>[ei n]))] (.sl (l.map (fun n=>[ei n]))):=by
 refine zO Tryz.func139 rfl (by kernel_rfl) rfl ?_
 refine zn (jy rfl rfl (zg rfl rfl) (zo (zn (jy rfl rfl (zI rfl rfl) ?_))))
 refine qL rfl (zvK rfl rfl rfl rfl rfl zt2 (zCP (zz7 fun _=>rfl)) (by simp; omega) (by unfold maxLen; simp; omega)) ?_
 refine jy rfl rfl (jm rfl rfl) (zo (zN ?_))
 exact ⟨.inr rfl, ⟨l.map (fun n=>[ei n]), rfl, by simp, rfl⟩⟩
theorem f137 (l:List Chk) (hl:l.length <= 1000):ACall Tryz.prog G 137 [.sl (l.map eChk)] (.sl (l.map eChk)):=by
 refine zO Tryz.func137 rfl (by kernel_rfl) rfl ?_
 refine zn (jy rfl rfl (zg rfl rfl) (zo (zn (jy rfl rfl (zI rfl rfl) ?_))))
 refine qL rfl (zvK rfl rfl rfl rfl rfl zGn (zCP (zz7 fun _=>rfl)) (by simp; omega) (by unfold maxLen; simp; omega)) ?_
 refine jy rfl rfl (jm rfl rfl) (zo (zN ?_))
 exact ⟨.inr rfl, ⟨l.map eChk, rfl, by simp, rfl⟩⟩
theorem f138 (l:List (Int × Int)) (hl:l.length <= 1000):ACall Tryz.prog G 138 [.sl (l.map Wr.eSpn)] (.sl (l.map Wr.eSpn)):=by
 refine zO Tryz.func138 rfl (by kernel_rfl) rfl ?_
 refine zn (jy rfl rfl (zg rfl rfl) (zo (zn (jy rfl rfl (zI rfl rfl) ?_))))
 refine qL rfl (zvK rfl rfl rfl rfl rfl zGB (zCP (zz7 fun _=>rfl)) (by simp; omega) (by unfold maxLen; simp; omega)) ?_
 refine jy rfl rfl (jm rfl rfl) (zo (zN ?_))
 exact ⟨.inr rfl, ⟨l.map Wr.eSpn, rfl, by simp, rfl⟩⟩
theorem f141 (l:List Lnk) (hl:l.length <= 1000):ACall Tryz.prog G 141 [.sl (l.map eLnk)] (.sl (l.map eLnk)):=by
 refine zO Tryz.func141 rfl (by kernel_rfl) rfl ?_
 refine zn (jy rfl rfl (zg rfl rfl) (zo (zn (jy rfl rfl (zI rfl rfl) ?_))))
 refine qL rfl (zvK rfl rfl rfl rfl rfl zt5 (zCP (zz7 fun _=>rfl)) (by simp; omega) (by unfold maxLen; simp; omega)) ?_
 refine jy rfl rfl (jm rfl rfl) (zo (zN ?_))
 exact ⟨.inr rfl, ⟨l.map eLnk, rfl, by simp, rfl⟩⟩
theorem f142 (l:List Prt) (hl:l.length <= 1000):ACall Tryz.prog G 142 [.sl (l.map ePrt)] (.sl (l.map ePrt)):=by
 refine zO Tryz.func142 rfl (by kernel_rfl) rfl ?_
 refine zn (jy rfl rfl (zg rfl rfl) (zo (zn (jy rfl rfl (zI rfl rfl) ?_))))
 refine qL rfl (zvK rfl rfl rfl rfl rfl zGA (zCP (zz7 fun _=>rfl)) (by simp; omega) (by unfold maxLen; simp; omega)) ?_
 refine jy rfl rfl (jm rfl rfl) (zo (zN ?_))
 exact ⟨.inr rfl, ⟨l.map ePrt, rfl, by simp, rfl⟩⟩
theorem f144 (b:Bool) (e:Int):ACall Tryz.prog G 144 [.v (.bool b), ei e] (ei (if b then 0 else e)):=by
 refine zO Tryz.func144 rfl (by kernel_rfl) rfl ?_
 refine zn (jy rfl rfl (zg rfl rfl) (zo (zt (zn (jy rfl rfl (zh rfl rfl) (zo (zA rfl (fun h0=>?_) (fun h0=>?_))))))))
 ·refine zn (jy rfl rfl (zg rfl rfl) (zo (zN (zP ?_))))
  exact ⟨.inr rfl, AVle.of (by rw [h0]; rfl)⟩
 ·refine zH (zk (zn (jy rfl rfl (zh rfl rfl) (jy rfl rfl (zg rfl rfl) (zo (zN ?_))))))
  exact ⟨.inr rfl, AVle.of (by rw [h0]; rfl)⟩
end Hs
end Go.Av
end
section
namespace Go.Av
namespace Hs
open Go.Proofs
set_option maxRecDepth 100000
set_option maxHeartbeats 1000000
variable {G:Glob}
theorem zDm:elemIs Tryz.prog 22 125 10 96:=⟨Tryz.underlying22, Tryz.t125, _, by kernel_rfl, rfl, rfl, rfl, rfl, by decide⟩
def rBS (l:List BSt):List (List EV):=l.map fun b=>(eBSt b).map .pub
theorem zBc {l:List BSt} {k:Nat} (h:k < l.length):(rBS l)[k]? = some ((eBSt l[k]).map .pub):=by simp [rBS, h]
theorem zzW {l:List BSt}:(rBS l).length = l.length:=by simp [rBS]
theorem zCK {l:List BSt}:∀ r ∈ rBS l, r.length = 10:=fun r hr=>by
 obtain ⟨q, _, rfl⟩:=List.mem_map.1 hr; rfl
theorem set_self {α:Type} {l:List α} {k:Nat} {x:α} (h:l[k]? = some x):l.set k x = l:=by
 apply List.ext_getElem?
 intro i
 by_cases e:k = i
 ·subst e
  rw [List.getElem?_set_self (zLg h).1, h]
 ·rw [List.getElem?_set_ne e]
theorem zB4 {l:List BSt} {k:Nat} (h:k < l.length):(rBS l).set k ((eBSt l[k]).map .pub) = rBS l:=set_self (zBc h)
theorem zCM {l:List BSt} {k:Nat}:PO.okL k (.row (rBS l)):=fun r hr x hx=>by
 obtain ⟨b, _, rfl⟩:=List.mem_map.1 hr
 obtain ⟨y, _, rfl⟩:=List.mem_map.1 hx
 simp [EV.lt]
theorem zt3 (l:List BSt) (hl:l.length <= 1000) (A B:PO) (hA:PO.okL 3 A) (hB:PO.okL 3 B):zeq Tryz.prog G 136 [.pub (.sl (l.map eBSt))] [A, B] (.ret (.psl 2 l.length) [A, B, .row (rBS l)]):=by
 refine zo5 Tryz.func136 rfl (by kernel_rfl) rfl (fun gh hold=>?_)
 refine zn (jy rfl rfl (zg rfl rfl) (zo (zn (jy rfl rfl (zI rfl rfl) ?_))))
 refine qL rfl (zvK rfl rfl rfl rfl rfl zDm (zCP (zz7 fun _=>rfl)) (by simp; omega) (by unfold maxLen; simp; omega)) ?_
 refine jy rfl rfl (jm rfl rfl) (zo (zN ?_))
 exact zaE [] (congrArg (fun z=>[A, B, PO.row z]) (by rw [rBS, List.map_map]; rfl)) ⟨hA, hB, zCM, trivial⟩ (by simp) (.inr rfl) (by simp [EV.lt]) (congrArg (EV.psl 2) (by simp))
end Hs
end Go.Av
end
