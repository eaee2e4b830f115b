import Derived.Test.YtgmbdadkbominaaGreatDoorHsD
import Derived.Test.YtgmbdadkbominaaGreatDoorChA
import Derived.Test.YtgmbdadkbominaaGreatDoorWiA
set_option linter.unusedVariables false
set_option linter.unusedSimpArgs false
section
namespace Go.Av
namespace Hs
open Go.Proofs
set_option maxRecDepth 100000
set_option maxHeartbeats 1000000
variable {G:Glob}
theorem zGp:(Tryz.prog.info? 225).bind (·.zero) = some (.agg #[.int .i64 0, .int .i64 0, .int .i64 0]):=by kernel_rfl
theorem zGC:(Tryz.prog.info? 55).bind (·.zero) = some (.agg #[.int .i64 0, .int .i64 0, .int .i64 0, .int .i64 0]):=by kernel_rfl
theorem zDz {α:Type} {p:α -> Bool} {xs:List α} {k:Nat} (hk:k < xs.length) (h:(xs.take k).all p = true) (hp:p xs[k] = true):(xs.take (k + 1)).all p = true:=by
 rw [List.take_succ_eq_append_getElem hk, List.all_append, h]; simp [hp]
theorem zDH {α:Type} {p:α -> Bool} {xs:List α} {k:Nat} (hk:k < xs.length) (hp:p xs[k] = false):xs.all p = false:=by
 rw [List.all_eq_false]; exact ⟨xs[k], List.getElem_mem hk, by simp [hp]⟩
theorem zDG {α:Type} {p:α -> Bool} {xs:List α} {k:Nat} (hk:xs.length <= k) (h:(xs.take k).all p = true):xs.all p = true:=by
 rwa [List.take_of_length_le hk] at h
def zBD (w:Wt):Bool:=w.reps.all (zz9 w.n) && w.lnks.all (zAK w.n) && w.prts.all zAk && (inB w.n 1 6 && decide ((w.reps.length:Int) <= 9) && decide ((w.lnks.length:Int) <= 8) && decide ((w.prts.length:Int) <= 4) && inB w.fall 1 99999 && inB w.win 1 2880 && inB w.hold 1 2880 && decide (w.dawn ≥ 0) && decide (w.dawn <= w.dusk) && decide (w.dusk <= 1440))
theorem zCd {w:Wt}:zBD w = zDr w:=by
 have e:∀ {α:Type} (p:α -> Bool) (l:List α), (!(l.any fun x=>!p x)) = l.all p:=fun p l=>by rw [List.not_any_eq_all_not]; simp
 unfold zBD zDr
 rw [e, e, e]
 cases w.reps.all (zz9 w.n) <;> cases w.lnks.all (zAK w.n) <;> cases w.prts.all zAk <;> simp [Bool.and_assoc]
theorem f39 (a l h:Int):ACall Tryz.prog G 39 [ei a, ei l, ei h] (.v (.bool (inB a l h))):=by
 refine zO Tryz.func39 rfl (by kernel_rfl) rfl ?_
 refine zn (jy rfl rfl (zg rfl rfl) (zo (zn (jy rfl rfl (zh rfl rfl) (jy rfl rfl (zh rfl rfl) (jy rfl rfl (kG rfl rfl rfl) (jy rfl rfl (zh rfl rfl) (zjW rfl rfl rfl (fun hg=>zh rfl rfl) ?_))))))))
 refine zjW rfl rfl rfl (fun hg=>zh rfl rfl) (zjW rfl rfl rfl (fun hg=>zbt rfl (if_pos hg) (if_pos hg)) (jy rfl rfl (jg rfl rfl rfl rfl) (jy rfl rfl (zg rfl rfl) (zo (zN ?_)))))
 exact ⟨.inr rfl, AVle.of (by simp [inB])⟩
theorem f134 (a l h:Int):ACall Tryz.prog G 134 [ei a, ei l, ei h] (.v (.bool (inB a l h))):=by
 refine zO Tryz.func134 rfl (by kernel_rfl) rfl ?_
 refine zn (jy rfl rfl (zg rfl rfl) (zo (zn (jy rfl rfl (zh rfl rfl) (jy rfl rfl (zh rfl rfl) (jy rfl rfl (kG rfl rfl rfl) (jy rfl rfl (zh rfl rfl) (zjW rfl rfl rfl (fun hg=>zh rfl rfl) ?_))))))))
 refine zjW rfl rfl rfl (fun hg=>zh rfl rfl) (zjW rfl rfl rfl (fun hg=>zbt rfl (if_pos hg) (if_pos hg)) (jy rfl rfl (jg rfl rfl rfl rfl) (jy rfl rfl (zg rfl rfl) (zo (zN ?_)))))
 exact ⟨.inr rfl, AVle.of (by simp [inB])⟩
theorem f116 (w:Wt) (x:Int):ACall Tryz.prog G 116 [.agg (eWt w), ei x] (.v (.bool (inB x 0 (m1 w.n)))):=by
 refine zO Tryz.func116 rfl (by kernel_rfl) rfl ?_
 refine zn (jy rfl rfl (ql rfl (zQ rfl)) (jy rfl rfl (zg rfl rfl) (zo (zn (jy rfl rfl (zh rfl rfl) (jy rfl rfl (zi rfl rfl zDR) (jy rfl rfl (zl rfl rfl rfl ty3) (jy rfl rfl (zEg rfl rfl) ?_))))))))
 refine jy rfl rfl (zB (av:=[_, _, _]) rfl ⟨rfl, rfl, rfl, trivial⟩ (f117 _ _ _)) (jy rfl rfl (zg rfl rfl) (zo (zN ?_)))
 exact ⟨.inr rfl, AVle.refl _⟩
theorem f44 (w:Wt) (hl:w.reps.length <= 1000 /\ w.lnks.length <= 1000 /\ w.prts.length <= 1000):ACall Tryz.prog G 44 [.agg (eWt w)] (.v (.bool (zBD w))):=by
 have hm1:(w.reps.map eRep).length = w.reps.length:=by simp
 have hm2:(w.lnks.map eLnk).length = w.lnks.length:=by simp
 have hm3:(w.prts.map ePrt).length = w.prts.length:=by simp
 refine zO Tryz.func44 rfl (by kernel_rfl) rfl ?_
 refine zn (jy rfl rfl (ql rfl (zQ rfl)) (jy rfl rfl (zg rfl rfl) (zo (zt (zn (jy rfl rfl (zg rfl rfl) (zo ?_)))))))
 refine zF ?_
 refine qm (ι:={ a:Nat // (w.reps.take a).all (zz9 w.n) = true }) (fun a=>⟨Tryz.f44.ntmps, frL [(1, .pub (.ptr (eWt w))), (3, I (a.1:Int))], []⟩) (fun a=>w.reps.length - a.1) (⟨0, by simp⟩) ?_ ?_
 ·exact zy _ ⟨rfl, rfl, trivial⟩ (rfl)
 ·rintro ⟨a, ha⟩
  dsimp only
  refine zt (zn (jy rfl rfl (zh rfl rfl) (jy rfl rfl (zi rfl rfl zzR) (jy rfl rfl (zl rfl rfl rfl zq0) (jy rfl rfl (qA rfl rfl rfl Tryz.underlying29) (jy rfl rfl (qx rfl rfl rfl) (zo (zA rfl (fun h0=>?_) (fun h0=>?_)))))))))
  ·have hlt_a:a < w.reps.length:=by simpa using h0
   refine zH (zk (zt (zF (zn (jy rfl rfl (zi rfl rfl zzR) (jy rfl rfl (zl rfl rfl rfl zq0) (jy rfl rfl (zh rfl rfl) ?_)))))))
   refine jy rfl rfl (zD rfl rfl rfl zA1 (by omega) (by exact zBh (k:=a) hlt_a) (zz7 fun _=>rfl)) ?_
   refine jy rfl rfl (zK rfl rfl zAs (by exact zLb rfl)) ?_
   refine qP  rfl rfl rfl rfl rfl rfl rfl zFp zAs rfl (by rfl) (zQ rfl) rfl ?_
   refine zo (zn (jy rfl rfl (zK rfl rfl zz8 (by exact zLb rfl)) (jy rfl rfl (zi rfl rfl zDB) (jy rfl rfl (zl rfl rfl rfl ty3) (jy rfl rfl (zB (av:=[_, _]) rfl ⟨rfl, rfl, trivial⟩ (f116 w _)) (jy rfl rfl (qJ rfl rfl) (jy rfl rfl (zh rfl rfl) (zjW rfl rfl rfl (fun hg=>zi rfl rfl zDx) (zjW rfl rfl rfl (fun hg=>zl rfl (if_pos hg) rfl ty3) ?_)))))))))
   refine zjW rfl rfl rfl (fun hg=>zB (av:=[_, _, _]) rfl ⟨((if_pos hg)), rfl, rfl, trivial⟩ (f117 _ _ _)) (zjW rfl rfl rfl (fun hg=>qJ rfl (if_pos hg)) (jy rfl rfl (jf rfl rfl rfl rfl) (jy rfl rfl (zh rfl rfl) (zjW rfl rfl rfl (fun hg=>zi rfl rfl zDS) (zjW rfl rfl rfl (fun hg=>zl rfl (if_pos hg) rfl ty3) (zjW rfl rfl rfl (fun hg=>zB (av:=[_, _, _]) rfl ⟨((if_pos hg)), rfl, rfl, trivial⟩ (f117 _ _ _)) (zjW rfl rfl rfl (fun hg=>qJ rfl (if_pos hg)) (jy rfl rfl (jf rfl rfl rfl rfl) (jy rfl rfl (zh rfl rfl) (zjW rfl rfl rfl (fun hg=>zi rfl rfl zB7) (zjW rfl rfl rfl (fun hg=>zK rfl (if_pos hg) zuz (by exact zLb rfl)) ?_)))))))))))
   refine zjW rfl rfl rfl (fun hg=>zB (av:=[_, _]) rfl ⟨((if_pos hg)), rfl, trivial⟩ (f118 _ _ _)) (zjW rfl rfl rfl (fun hg=>qJ rfl (if_pos hg)) (jy rfl rfl (jf rfl rfl rfl rfl) (jy rfl rfl (zh rfl rfl) (zjW rfl rfl rfl (fun hg=>zi rfl rfl zE0) (zjW rfl rfl rfl (fun hg=>zl rfl (if_pos hg) rfl ty3) (zjW rfl rfl rfl (fun hg=>zB (av:=[_, _, _]) rfl ⟨((if_pos hg)), rfl, rfl, trivial⟩ (f117 _ _ _)) (zjW rfl rfl rfl (fun hg=>qJ rfl (if_pos hg)) (jy rfl rfl (jf rfl rfl rfl rfl) (jy rfl rfl (zh rfl rfl) (zjW rfl rfl rfl (fun hg=>zi rfl rfl zE2) (zjW rfl rfl rfl (fun hg=>zl rfl (if_pos hg) rfl ty3) ?_)))))))))))
   refine zjW rfl rfl rfl (fun hg=>zB (av:=[_, _, _]) rfl ⟨((if_pos hg)), rfl, rfl, trivial⟩ (f117 _ _ _)) (zjW rfl rfl rfl (fun hg=>qJ rfl (if_pos hg)) (jy rfl rfl (jf rfl rfl rfl rfl) (zo (zA rfl (fun h1=>?_) (fun h1=>?_)))))
   ·have hbad:(zz9 w.n) w.reps[a] = false:=by
     cases hv:(zz9 w.n) w.reps[a] with
     | false=>rfl
     | true=>exfalso; simp only[zz9, zLa, decide_eq_true_eq] at hv; simp only[Bool.or_eq_true, Bool.not_eq_true', decide_eq_true_eq] at h1; simp_all; try omega
    refine zn (jy rfl rfl (zg rfl rfl) (zo (zN (zZ (zP (zP (zZ (zP ?_))))))))
    exact ⟨.inr rfl, AVle.of (by rw [zBD, zDH hlt_a hbad]; rfl)⟩
   ·have hok_a:(zz9 w.n) w.reps[a] = true:=by simp only[zz9]; simpa [and_assoc] using h1
    refine zH (zJ (zk (zx (jy rfl rfl (zh rfl rfl) (jy rfl rfl (zW rfl rfl rfl ⟨by omega, by omega⟩) (jy rfl rfl (zg rfl rfl) (zM ?_)))))))
    exact ⟨⟨a + 1, zDz hlt_a ha hok_a⟩, by dsimp only; omega, zy _ ⟨rfl, rfl, trivial⟩ (rfl)⟩
  ·have hall_a:=zDG (p:=(zz9 w.n)) (by simpa using h0) ha
   refine zAj (zS (zS (zAi (zk (zt (zn (jy rfl rfl (zg rfl rfl) (zo (zF ?_)))))))))
   refine qm (ι:={ b:Nat // (w.lnks.take b).all (zAK w.n) = true }) (fun b=>⟨Tryz.f44.ntmps, frL [(1, .pub (.ptr (eWt w))), (5, I (b.1:Int))], []⟩) (fun b=>w.lnks.length - b.1) (⟨0, by simp⟩) ?_ ?_
   ·exact zy _ ⟨rfl, rfl, trivial⟩ (rfl)
   ·rintro ⟨b, hb⟩
    dsimp only
    refine zt (zn (jy rfl rfl (zh rfl rfl) (jy rfl rfl (zi rfl rfl zBn) (jy rfl rfl (zl rfl rfl rfl zei) (jy rfl rfl (qA rfl rfl rfl Tryz.underlying30) (jy rfl rfl (qx rfl rfl rfl) (zo (zA rfl (fun h2=>?_) (fun h2=>?_)))))))))
    ·have hlt_b:b < w.lnks.length:=by simpa using h2
     refine zH (zk (zt (zF (zn (jy rfl rfl (zi rfl rfl zBn) (jy rfl rfl (zl rfl rfl rfl zei) (jy rfl rfl (zh rfl rfl) ?_)))))))
     refine jy rfl rfl (zD rfl rfl rfl zFM (by omega) (by exact zBh (k:=b) hlt_b) (zz7 fun _=>rfl)) ?_
     refine jy rfl rfl (zK rfl rfl zES (by exact zLb rfl)) ?_
     refine qP  rfl rfl rfl rfl rfl rfl rfl zGp zES rfl (by rfl) (zQ rfl) rfl ?_
     refine zo (zn (jy rfl rfl (zK rfl rfl zz8 (by exact zLb rfl)) (jy rfl rfl (zi rfl rfl zDC) (jy rfl rfl (zl rfl rfl rfl ty3) (jy rfl rfl (zB (av:=[_, _]) rfl ⟨rfl, rfl, trivial⟩ (f116 w _)) (jy rfl rfl (qJ rfl rfl) (jy rfl rfl (zh rfl rfl) (zjW rfl rfl rfl (fun hg=>zK rfl rfl zz8 (by exact zLb rfl)) (zjW rfl rfl rfl (fun hg=>zi rfl rfl zDE) ?_)))))))))
     refine zjW rfl rfl rfl (fun hg=>zl rfl (if_pos hg) rfl ty3) (zjW rfl rfl rfl (fun hg=>zB (av:=[_, _]) rfl ⟨((if_pos hg)), ((if_pos hg)), trivial⟩ (f116 w _)) (zjW rfl rfl rfl (fun hg=>qJ rfl (if_pos hg)) (jy rfl rfl (jf rfl rfl rfl rfl) (jy rfl rfl (zh rfl rfl) (zjW rfl rfl rfl (fun hg=>zi rfl rfl zDC) (zjW rfl rfl rfl (fun hg=>zl rfl (if_pos hg) rfl ty3) (zjW rfl rfl rfl (fun hg=>zi rfl rfl zDE) (zjW rfl rfl rfl (fun hg=>zl rfl (if_pos hg) rfl ty3) (zjW rfl rfl rfl (fun hg=>qR rfl (if_pos hg) (if_pos hg)) (jy rfl rfl (jf rfl rfl rfl rfl) (jy rfl rfl (zh rfl rfl) ?_)))))))))))
     refine zjW rfl rfl rfl (fun hg=>zi rfl rfl zD6) (zjW rfl rfl rfl (fun hg=>zl rfl (if_pos hg) rfl ty3) (zjW rfl rfl rfl (fun hg=>zB (av:=[_, _, _]) rfl ⟨((if_pos hg)), rfl, rfl, trivial⟩ (f117 _ _ _)) (zjW rfl rfl rfl (fun hg=>qJ rfl (if_pos hg)) (jy rfl rfl (jf rfl rfl rfl rfl) (zo (zA rfl (fun h3=>?_) (fun h3=>?_)))))))
     ·have hbad:(zAK w.n) w.lnks[b] = false:=by
       cases hv:(zAK w.n) w.lnks[b] with
       | false=>rfl
       | true=>exfalso; simp only[zAK, zLa, decide_eq_true_eq] at hv; simp only[Bool.or_eq_true, Bool.not_eq_true', decide_eq_true_eq] at h3; simp_all; try omega
      refine zn (jy rfl rfl (zg rfl rfl) (zo (zN (zZ (zP (zP (zZ (zP ?_))))))))
      exact ⟨.inr rfl, AVle.of (by rw [zBD, zDH hlt_b hbad]; simp)⟩
     ·have hok_b:(zAK w.n) w.lnks[b] = true:=by simp only[zAK]; simpa [and_assoc] using h3
      refine zH (zJ (zk (zx (jy rfl rfl (zh rfl rfl) (jy rfl rfl (zW rfl rfl rfl ⟨by omega, by omega⟩) (jy rfl rfl (zg rfl rfl) (zM ?_)))))))
      exact ⟨⟨b + 1, zDz hlt_b hb hok_b⟩, by dsimp only; omega, zy _ ⟨rfl, rfl, trivial⟩ (rfl)⟩
    ·have hall_b:=zDG (p:=(zAK w.n)) (by simpa using h2) hb
     refine zAj (zS (zS (zAi (zk (zt (zn (jy rfl rfl (zg rfl rfl) (zo (zF ?_)))))))))
     refine qm (ι:={ c:Nat // (w.prts.take c).all zAk = true }) (fun c=>⟨Tryz.f44.ntmps, frL [(1, .pub (.ptr (eWt w))), (7, I (c.1:Int))], []⟩) (fun c=>w.prts.length - c.1) (⟨0, by simp⟩) ?_ ?_
     ·exact zy _ ⟨rfl, rfl, trivial⟩ (rfl)
     ·rintro ⟨c, hc⟩
      dsimp only
      refine zt (zn (jy rfl rfl (zh rfl rfl) (jy rfl rfl (zi rfl rfl zAa) (jy rfl rfl (zl rfl rfl rfl zBt) (jy rfl rfl (qA rfl rfl rfl Tryz.underlying31) (jy rfl rfl (qx rfl rfl rfl) (zo (zA rfl (fun h4=>?_) (fun h4=>?_)))))))))
      ·have hlt_c:c < w.prts.length:=by simpa using h4
       refine zH (zk (zt (zF (zn (jy rfl rfl (zi rfl rfl zAa) (jy rfl rfl (zl rfl rfl rfl zBt) (jy rfl rfl (zh rfl rfl) ?_)))))))
       refine jy rfl rfl (zD rfl rfl rfl zCn (by omega) (by exact zBh (k:=c) hlt_c) (zz7 fun _=>rfl)) ?_
       refine jy rfl rfl (zK rfl rfl zFB (by exact zLb rfl)) ?_
       refine qP  rfl rfl rfl rfl rfl rfl rfl zGC zFB rfl (by rfl) (zQ rfl) rfl ?_
       refine zo (zn (jy rfl rfl (zi rfl rfl zBf) (jy rfl rfl (zK rfl rfl zuz (by exact zLb rfl)) (jy rfl rfl (zB (av:=[_, _]) rfl ⟨rfl, rfl, trivial⟩ (f118 _ _ _)) (jy rfl rfl (qJ rfl rfl) (jy rfl rfl (zh rfl rfl) (zjW rfl rfl rfl (fun hg=>zi rfl rfl zBf) (zjW rfl rfl rfl (fun hg=>zi rfl (if_pos hg) zqc) (zjW rfl rfl rfl (fun hg=>zl rfl (if_pos hg) rfl ty3) ?_)))))))))
       refine zjW rfl rfl rfl (fun hg=>zi rfl rfl zBf) (zjW rfl rfl rfl (fun hg=>zi rfl (if_pos hg) zqK) (zjW rfl rfl rfl (fun hg=>zl rfl (if_pos hg) rfl ty3) ?_))
       refine zjW rfl rfl rfl (fun hg=>vN rfl (if_pos hg) (if_pos hg) ⟨by simp [zB5] at hg; omega, by simp [zB5] at hg; omega⟩) ?_
       refine zjW rfl rfl rfl (fun hg=>jB rfl (if_pos hg) rfl) (jy rfl rfl (jf rfl rfl rfl rfl) (jy rfl rfl (zh rfl rfl) (zjW rfl rfl rfl (fun hg=>zi rfl rfl zEZ) (zjW rfl rfl rfl (fun hg=>zl rfl (if_pos hg) rfl ty3) (zjW rfl rfl rfl (fun hg=>zB (av:=[_, _, _]) rfl ⟨((if_pos hg)), rfl, rfl, trivial⟩ (f117 _ _ _)) (zjW rfl rfl rfl (fun hg=>qJ rfl (if_pos hg)) (jy rfl rfl (jf rfl rfl rfl rfl) (jy rfl rfl (zh rfl rfl) (zjW rfl rfl rfl (fun hg=>zi rfl rfl zE4) (zjW rfl rfl rfl (fun hg=>zl rfl (if_pos hg) rfl ty3) (zjW rfl rfl rfl (fun hg=>zB (av:=[_, _, _]) rfl ⟨((if_pos hg)), rfl, rfl, trivial⟩ (f117 _ _ _)) ?_)))))))))))
       refine zjW rfl rfl rfl (fun hg=>qJ rfl (if_pos hg)) (jy rfl rfl (jf rfl rfl rfl rfl) (zo (zA rfl (fun h5=>?_) (fun h5=>?_))))
       ·have hbad:zAk w.prts[c] = false:=by
         cases hv:zAk w.prts[c] with
         | false=>rfl
         | true=>exfalso; simp only[zAk, zLa, decide_eq_true_eq] at hv; simp only[Bool.or_eq_true, Bool.not_eq_true', decide_eq_true_eq] at h5; simp_all; try omega
        refine zn (jy rfl rfl (zg rfl rfl) (zo (zN (zZ (zP (zP (zZ (zP ?_))))))))
        exact ⟨.inr rfl, AVle.of (by rw [zBD, zDH hlt_c hbad]; simp)⟩
       ·have hok_c:zAk w.prts[c] = true:=by simp only[zAk]; simpa [and_assoc] using h5
        refine zH (zJ (zk (zx (jy rfl rfl (zh rfl rfl) (jy rfl rfl (zW rfl rfl rfl ⟨by omega, by omega⟩) (jy rfl rfl (zg rfl rfl) (zM ?_)))))))
        exact ⟨⟨c + 1, zDz hlt_c hc hok_c⟩, by dsimp only; omega, zy _ ⟨rfl, rfl, trivial⟩ (rfl)⟩
      ·have hall_c:=zDG (p:=zAk) (by simpa using h4) hc
       refine zAj (zS (zS (zAi (zk (zn (jy rfl rfl (zi rfl rfl zDR) (jy rfl rfl (zl rfl rfl rfl ty3) (jy rfl rfl (zB (av:=[_, _, _]) rfl ⟨rfl, rfl, rfl, trivial⟩ (f117 _ _ _)) (jy rfl rfl (zh rfl rfl) (zjW rfl rfl rfl (fun hg=>zi rfl rfl zzR) ?_))))))))))
       refine zjW rfl rfl rfl (fun hg=>zl rfl (if_pos hg) rfl zq0) (zjW rfl rfl rfl (fun hg=>qA rfl rfl (if_pos hg) Tryz.underlying29) (zjW rfl rfl rfl (fun hg=>zbt rfl (if_pos hg) rfl) (jy rfl rfl (jg rfl rfl rfl rfl) (jy rfl rfl (zh rfl rfl) (zjW rfl rfl rfl (fun hg=>zi rfl rfl zBn) (zjW rfl rfl rfl (fun hg=>zl rfl (if_pos hg) rfl zei) (zjW rfl rfl rfl (fun hg=>qA rfl rfl (if_pos hg) Tryz.underlying30) (zjW rfl rfl rfl (fun hg=>zbt rfl (if_pos hg) rfl) (jy rfl rfl (jg rfl rfl rfl rfl) (jy rfl rfl (zh rfl rfl) (zjW rfl rfl rfl (fun hg=>zi rfl rfl zAa) ?_)))))))))))
       refine zjW rfl rfl rfl (fun hg=>zl rfl (if_pos hg) rfl zBt) (zjW rfl rfl rfl (fun hg=>qA rfl rfl (if_pos hg) Tryz.underlying31) (zjW rfl rfl rfl (fun hg=>zbt rfl (if_pos hg) rfl) (jy rfl rfl (jg rfl rfl rfl rfl) (jy rfl rfl (zh rfl rfl) (zjW rfl rfl rfl (fun hg=>zi rfl rfl zEc) (zjW rfl rfl rfl (fun hg=>zl rfl (if_pos hg) rfl ty3) (zjW rfl rfl rfl (fun hg=>zB (av:=[_, _, _]) rfl ⟨((if_pos hg)), rfl, rfl, trivial⟩ (f117 _ _ _)) (jy rfl rfl (jg rfl rfl rfl rfl) (jy rfl rfl (zh rfl rfl) (zjW rfl rfl rfl (fun hg=>zi rfl rfl zEe) (zjW rfl rfl rfl (fun hg=>zl rfl (if_pos hg) rfl ty3) ?_)))))))))))
       refine zjW rfl rfl rfl (fun hg=>zB (av:=[_, _, _]) rfl ⟨((if_pos hg)), rfl, rfl, trivial⟩ (f117 _ _ _)) (jy rfl rfl (jg rfl rfl rfl rfl) (jy rfl rfl (zh rfl rfl) (zjW rfl rfl rfl (fun hg=>zi rfl rfl zEl) (zjW rfl rfl rfl (fun hg=>zl rfl (if_pos hg) rfl ty3) (zjW rfl rfl rfl (fun hg=>zB (av:=[_, _, _]) rfl ⟨((if_pos hg)), rfl, rfl, trivial⟩ (f117 _ _ _)) (jy rfl rfl (jg rfl rfl rfl rfl) (jy rfl rfl (zh rfl rfl) (zjW rfl rfl rfl (fun hg=>zi rfl rfl zD2) (zjW rfl rfl rfl (fun hg=>zl rfl (if_pos hg) rfl ty3) (zjW rfl rfl rfl (fun hg=>kG rfl (if_pos hg) rfl) (jy rfl rfl (jg rfl rfl rfl rfl) ?_)))))))))))
       refine jy rfl rfl (zh rfl rfl) (zjW rfl rfl rfl (fun hg=>zi rfl rfl zD2) (zjW rfl rfl rfl (fun hg=>zl rfl (if_pos hg) rfl ty3) (zjW rfl rfl rfl (fun hg=>zi rfl rfl zD3) (zjW rfl rfl rfl (fun hg=>zl rfl (if_pos hg) rfl ty3) (zjW rfl rfl rfl (fun hg=>zbt rfl (if_pos hg) (if_pos hg)) (jy rfl rfl (jg rfl rfl rfl rfl) (jy rfl rfl (zh rfl rfl) (zjW rfl rfl rfl (fun hg=>zi rfl rfl zD3) (zjW rfl rfl rfl (fun hg=>zl rfl (if_pos hg) rfl ty3) (zjW rfl rfl rfl (fun hg=>zbt rfl (if_pos hg) rfl) (jy rfl rfl (jg rfl rfl rfl rfl) ?_)))))))))))
       refine jy rfl rfl (zg rfl rfl) (zo (zN ?_))
       exact ⟨.inr rfl, AVle.of (by rw [zBD, hall_a, hall_b, hall_c]; simp [Bool.and_assoc])⟩
end Hs
end Go.Av
end
section
namespace Go.Av
namespace Hs
open Go.Proofs
set_option maxRecDepth 100000
set_option maxHeartbeats 1000000
variable {G:Glob}
theorem zA0:fldIs Tryz.prog 123 6 8 = true:=by kernel_rfl
theorem zCl:tyIs Tryz.prog 121 false 1 = true:=by kernel_rfl
theorem zDM:kw Tryz.prog 121 3 = true:=by kernel_rfl
theorem zDD:tyIs Tryz.prog 220 true 3 = true:=by kernel_rfl
theorem zEo:(Tryz.prog.info? 220).bind (·.zero) = some (.agg #[.int .i64 0, .int .i64 0, .int .i64 0]):=by kernel_rfl
theorem zDt:fldIs Tryz.prog 220 1 1 = true:=by kernel_rfl
theorem zDO:fldIs Tryz.prog 123 2 4 = true:=by kernel_rfl
theorem zDA:fldIs Tryz.prog 220 0 0 = true:=by kernel_rfl
theorem zDX:tyIs Tryz.prog 123 true 9 = true:=by kernel_rfl
theorem zEy:fldIs Tryz.prog 123 0 0 = true:=by kernel_rfl
theorem zEE:fldIs Tryz.prog 123 1 2 = true:=by kernel_rfl
theorem zEI:fldIs Tryz.prog 123 3 5 = true:=by kernel_rfl
theorem zEq:fldIs Tryz.prog 123 4 6 = true:=by kernel_rfl
theorem zEK:fldIs Tryz.prog 123 5 7 = true:=by kernel_rfl
theorem zEb:fldIs Tryz.prog 35 0 0 = true:=by kernel_rfl
theorem zEi:fldIs Tryz.prog 35 2 2 = true:=by kernel_rfl
theorem zEj:fldIs Tryz.prog 35 1 1 = true:=by kernel_rfl
theorem zEd:fldIs Tryz.prog 28 0 0 = true:=by kernel_rfl
theorem zEh:fldIs Tryz.prog 28 2 2 = true:=by kernel_rfl
theorem zEa:fldIs Tryz.prog 28 1 1 = true:=by kernel_rfl
structure Chk where
 t:Int
 lo:Int
 hi:Int
structure Gls where
 hl:Int
 hh:Int
 gl:Int
 gh:Int
 dr:Int
 rd:Int
 ea:Int
 sl:Int
 ck:List Chk
def eChk (c:Chk):List AV:=[ei c.t, ei c.lo, ei c.hi]
def zDL (g:Gls):List AV:=[ei g.hl, ei g.hh, ei g.gl, ei g.gh, ei g.dr, ei g.rd, ei g.ea, ei g.sl, .sl (g.ck.map eChk)]
def zCQ (a b l h:Int):Bool:=decide (a ≥ l) && decide (a <= b) && decide (b <= h)
def zCw (c:Chk):Bool:=inB c.t 0 400 && zCQ c.lo c.hi (-2000) 2000
def zC1 (g:Gls):Bool:=g.ck.all zCw && (zCQ g.hl g.hh 0 3000 && zCQ g.gl g.gh (-3000) 3000 && inB g.dr 0 100 && inB g.rd 0 200 && inB g.ea (-720) 720 && inB g.sl 0 60 && decide ((g.ck.length:Int) <= 12))
def ck0:Chk:=⟨0, 0, 0⟩
def ckG (g:Gls) (i:Nat):Chk:=g.ck.getD i ck0
theorem zD5 {g:Gls} {i:Nat} (h:i < g.ck.length):(g.ck.map eChk)[i]? = some (eChk (ckG g i)):=by simp [ckG, h]
theorem zDJ {g:Gls}:∀ q ∈ g.ck.map eChk, q.length = 3:=zz7 fun _=>rfl
def ctB (g:Gls) (i j:Nat):Bool:=decide (max ((ckG g i).lo - (ckG g j).hi) ((ckG g j).lo - (ckG g i).hi) > g.dr * far (ckG g i).t (ckG g j).t)
def clB (g:Gls):Bool:=(List.range g.ck.length).any fun i=>(List.range g.ck.length).any fun j=>decide (i < j) && ctB g i j
theorem zD7 {g:Gls} (h:zC1 g = true) {i:Nat} (hi:i < g.ck.length):(0 <= (ckG g i).t /\ (ckG g i).t <= 400) /\ -2000 <= (ckG g i).lo /\ (ckG g i).lo <= (ckG g i).hi /\ (ckG g i).hi <= 2000:=by
 simp only[zC1, zLa, List.all_eq_true] at h
 have:=h.1 _ (List.getElem_mem hi)
 rw [show ckG g i = g.ck[i] by simp [ckG, hi]]
 simp only[zCw, zz6, zCQ, zLa, decide_eq_true_eq] at this
 omega
theorem zDZ {g:Gls} (h:zC1 g = true):(0 <= g.dr /\ g.dr <= 100) /\ g.ck.length <= 12:=by
 simp only[zC1, zLa, zz6, decide_eq_true_eq] at h
 omega
theorem zEN {a b:Int} (h:0 <= a /\ a <= 100) (h2:0 <= b /\ b <= 400):0 <= a * b /\ a * b <= 40000:=by
 refine ⟨Int.mul_nonneg h.1 h2.1, ?_⟩
 have h3:a * b <= 100 * b:=Int.mul_le_mul_of_nonneg_right h.2 h2.1
 omega
theorem zEM {a b:Int} (h:0 <= a /\ a <= 400) (h2:0 <= b /\ b <= 400):0 <= far a b /\ far a b <= 400:=by unfold far; omega
theorem zFu {g:Gls} {i j:Nat} (hi:i < g.ck.length) (hj:j < g.ck.length) (hij:i < j) (h:ctB g i j = true):clB g = true:=
 List.any_eq_true.2 ⟨i, List.mem_range.2 hi, List.any_eq_true.2 ⟨j, List.mem_range.2 hj, by simp [hij, h]⟩⟩
theorem zF7 {g:Gls} {a:Nat} (ha:g.ck.length <= a) (h:∀ i, i < a -> ∀ j, i < j -> j < g.ck.length -> ctB g i j = false):clB g = false:=by
 unfold clB
 rw [List.any_eq_false]
 intro i hi
 rw [List.mem_range] at hi
 rw [Bool.not_eq_true, List.any_eq_false]
 intro j hj
 rw [List.mem_range] at hj
 by_cases hij:i < j
 ·simp [hij, h i (by omega) j hij hj]
 ·simp [hij]
theorem f114 (a l h:Int):ACall Tryz.prog G 114 [ei a, ei l, ei h] (.v (.bool (inB a l h))):=by
 refine zO Tryz.func114 rfl (by kernel_rfl) rfl ?_
 refine zn (jy rfl rfl (zg rfl rfl) (zo (zn (jy rfl rfl (zh rfl rfl) (jy rfl rfl (zh rfl rfl) (jy rfl rfl (kG rfl rfl rfl) (jy rfl rfl (zh rfl rfl) (zjW rfl rfl rfl (fun hg=>zh rfl rfl) ?_))))))))
 refine zjW rfl rfl rfl (fun hg=>zh rfl rfl) (zjW rfl rfl rfl (fun hg=>zbt rfl (if_pos hg) (if_pos hg)) (jy rfl rfl (jg rfl rfl rfl rfl) (jy rfl rfl (zg rfl rfl) (zo (zN ?_)))))
 exact ⟨.inr rfl, AVle.of (by simp [inB])⟩
theorem f119 (a l h:Int):ACall Tryz.prog G 119 [ei a, ei l, ei h] (.v (.bool (inB a l h))):=by
 refine zO Tryz.func119 rfl (by kernel_rfl) rfl ?_
 refine zn (jy rfl rfl (zg rfl rfl) (zo (zn (jy rfl rfl (zh rfl rfl) (jy rfl rfl (zh rfl rfl) (jy rfl rfl (kG rfl rfl rfl) (jy rfl rfl (zh rfl rfl) (zjW rfl rfl rfl (fun hg=>zh rfl rfl) ?_))))))))
 refine zjW rfl rfl rfl (fun hg=>zh rfl rfl) (zjW rfl rfl rfl (fun hg=>zbt rfl (if_pos hg) (if_pos hg)) (jy rfl rfl (jg rfl rfl rfl rfl) (jy rfl rfl (zg rfl rfl) (zo (zN ?_)))))
 exact ⟨.inr rfl, AVle.of (by simp [inB])⟩
theorem f67 (a l h:Int):ACall Tryz.prog G 67 [ei a, ei l, ei h] (.v (.bool (inB a l h))):=by
 refine zO Tryz.func67 rfl (by kernel_rfl) rfl ?_
 refine zn (jy rfl rfl (zg rfl rfl) (zo (zn (jy rfl rfl (zh rfl rfl) (jy rfl rfl (zh rfl rfl) (jy rfl rfl (kG rfl rfl rfl) (jy rfl rfl (zh rfl rfl) (zjW rfl rfl rfl (fun hg=>zh rfl rfl) ?_))))))))
 refine zjW rfl rfl rfl (fun hg=>zh rfl rfl) (zjW rfl rfl rfl (fun hg=>zbt rfl (if_pos hg) (if_pos hg)) (jy rfl rfl (jg rfl rfl rfl rfl) (jy rfl rfl (zg rfl rfl) (zo (zN ?_)))))
 exact ⟨.inr rfl, AVle.of (by simp [inB])⟩
theorem f112 (a:Int):ACall Tryz.prog G 112 [ei a] (.v (.bool (inB a 0 400))):=by
 refine zO Tryz.func112 rfl (by kernel_rfl) rfl ?_
 refine zn (jy rfl rfl (zg rfl rfl) (zo (zn (jy rfl rfl (zh rfl rfl) (jy rfl rfl (zB (av:=[_, _, _]) rfl ⟨rfl, rfl, rfl, trivial⟩ (f114 _ _ _)) (jy rfl rfl (zg rfl rfl) (zo ?_)))))))
 refine zN ?_
 exact ⟨.inr rfl, AVle.refl _⟩
theorem f113 (a b l h:Int):ACall Tryz.prog G 113 [.agg [ei a, ei b], ei l, ei h] (.v (.bool (zCQ a b l h))):=by
 refine zO Tryz.func113 rfl (by kernel_rfl) rfl ?_
 refine zn (jy rfl rfl (ql rfl (zQ rfl)) (jy rfl rfl (zg rfl rfl) (zo (zn (jy rfl rfl (zi rfl rfl zqK) (jy rfl rfl (zl rfl rfl rfl ty3) (jy rfl rfl (zh rfl rfl) (jy rfl rfl (kG rfl rfl rfl) ?_))))))))
 refine jy rfl rfl (zh rfl rfl) (zjW rfl rfl rfl (fun hg=>zi rfl rfl zqK) (zjW rfl rfl rfl (fun hg=>zl rfl (if_pos hg) rfl ty3) (zjW rfl rfl rfl (fun hg=>zi rfl rfl zqc) (zjW rfl rfl rfl (fun hg=>zl rfl (if_pos hg) rfl ty3) (zjW rfl rfl rfl (fun hg=>zbt rfl (if_pos hg) (if_pos hg)) (jy rfl rfl (jg rfl rfl rfl rfl) (jy rfl rfl (zh rfl rfl) (zjW rfl rfl rfl (fun hg=>zi rfl rfl zqc) (zjW rfl rfl rfl (fun hg=>zl rfl (if_pos hg) rfl ty3) (zjW rfl rfl rfl (fun hg=>zh rfl rfl) (zjW rfl rfl rfl (fun hg=>zbt rfl (if_pos hg) (if_pos hg)) ?_)))))))))))
 refine jy rfl rfl (jg rfl rfl rfl rfl) (jy rfl rfl (zg rfl rfl) (zo (zN ?_)))
 exact ⟨.inr rfl, AVle.of (by simp [zCQ, Bool.and_assoc])⟩
theorem f250 (a b:Int) (h:(0 <= a /\ a <= 100000) /\ (0 <= b /\ b <= 100000)):ACall Tryz.prog G 250 [ei a, ei b] (ei (far a b)):=by
 refine zO Tryz.func250 rfl (by kernel_rfl) rfl ?_
 refine zn (jy rfl rfl (zg rfl rfl) (zo (zn (jy rfl rfl (zh rfl rfl) (jy rfl rfl (zh rfl rfl) ?_)))))
 refine jy rfl rfl (vN rfl rfl rfl ⟨by omega, by omega⟩) ?_
 refine jy rfl rfl (zh rfl rfl) (jy rfl rfl (zh rfl rfl) ?_)
 refine jy rfl rfl (vN rfl rfl rfl ⟨by omega, by omega⟩) ?_
 refine jy rfl rfl (zrp rfl rfl rfl) (jy rfl rfl (zg rfl rfl) (zo (zN ?_)))
 exact ⟨.inr rfl, AVle.refl _⟩
theorem f201 {g:Gls} (hs:zC1 g = true) (i j:Nat) (hi:i < g.ck.length) (hj:j < g.ck.length):ACall Tryz.prog G 201 [.agg (zDL g), ei (i:Int), ei (j:Int)] (.v (.bool (ctB g i j))):=by
 have h1:=zD7 hs hi
 have h2:=zD7 hs hj
 have hg:=zDZ hs
 have hmb:=zEN hg.1 (zEM h1.1 h2.1)
 have hcl:(g.ck.map eChk).length = g.ck.length:=by simp
 refine zO Tryz.func201 rfl (by kernel_rfl) rfl ?_
 refine zn (jy rfl rfl (ql rfl (zQ rfl)) (jy rfl rfl (zg rfl rfl) (zo (zt ?_))))
 refine qY zgO ?_
 refine qY zgO ?_
 refine zfD (fun _=>True) (fun k=>match k with | 0=>.stable | 1=>.stable | 2=>.stable | 3=>.stable | 4=>.stable | 5=>.stable | 6=>.stable | 7=>.stable | 8=>.stable | 9=>.stable | 10=>.own 0 | 11=>.own 1 | 12=>.writes | 13=>.writes | _=>.here) mixed (by kernel_rfl) rfl (by kernel_rfl) trivial ?_
 refine jv rfl rfl (fun m hm=>zi rfl rfl zA0) (jv rfl rfl (fun m hm=>zl rfl rfl rfl zCl) (jv rfl rfl (fun m hm=>zh rfl rfl) ?_))
 refine jv rfl rfl (fun m hm=>zD rfl rfl rfl zDM (by omega) (by exact zD5 (i:=i) hi) zDJ) ?_
 refine jv rfl rfl (fun m hm=>zK rfl rfl zDD (by exact zLb rfl)) (jv rfl rfl (fun m hm=>zi rfl rfl zA0) (jv rfl rfl (fun m hm=>zl rfl rfl rfl zCl) (jv rfl rfl (fun m hm=>zh rfl rfl) ?_)))
 refine jv rfl rfl (fun m hm=>zD rfl rfl rfl zDM (by omega) (by exact zD5 (i:=j) hj) zDJ) ?_
 refine jv rfl rfl (fun m hm=>zK rfl rfl zDD (by exact zLb rfl)) ?_
 refine ztC rfl rfl (zmH rfl zEo rfl rfl rfl) ?_
 refine ztC rfl rfl (zmH rfl zEo rfl rfl rfl) ?_
 refine zpt rfl rfl (zd0 rfl rfl rfl rfl rfl rfl (zQ rfl) zDD (by rfl) (by rfl)) trivial ?_
 refine zpt rfl rfl (zd0 rfl rfl rfl rfl rfl rfl (zQ rfl) zDD (by rfl) (by rfl)) trivial ?_
 refine zfa (zk (zt ?_))
 refine qp mixed (by kernel_rfl) rfl ?_
 refine zu rfl (jJ rfl rfl rfl rfl zDt) (zu rfl (jJ rfl rfl rfl rfl zqK) (zu rfl (zX rfl rfl rfl rfl rfl rfl ty3) (zu rfl (jJ rfl rfl rfl rfl zDt) (zu rfl (jJ rfl rfl rfl rfl zqc) (zu rfl (zX rfl rfl rfl rfl rfl rfl ty3) ?_)))))
 refine zu rfl (vN rfl rfl rfl ⟨by omega, by omega⟩) ?_
 refine zu rfl (jJ rfl rfl rfl rfl zDt) (zu rfl (jJ rfl rfl rfl rfl zqK) (zu rfl (zX rfl rfl rfl rfl rfl rfl ty3) (zu rfl (jJ rfl rfl rfl rfl zDt) (zu rfl (jJ rfl rfl rfl rfl zqc) (zu rfl (zX rfl rfl rfl rfl rfl rfl ty3) ?_)))))
 refine zu rfl (vN rfl rfl rfl ⟨by omega, by omega⟩) ?_
 refine zu rfl (zrp rfl rfl rfl) (zu rfl (zi rfl rfl zDO) (zu rfl (zl rfl rfl rfl ty3) (zu rfl (jJ rfl rfl rfl rfl zDA) (zu rfl (zX rfl rfl rfl rfl rfl rfl ty3) (zu rfl (jJ rfl rfl rfl rfl zDA) (zu rfl (zX rfl rfl rfl rfl rfl rfl ty3) ?_))))))
 refine zu rfl (zB (av:=[_, _]) rfl ⟨rfl, rfl, trivial⟩ (f250 _ _ ⟨by omega, by omega⟩)) ?_
 refine zu rfl (ya rfl rfl rfl ⟨by omega, by omega⟩) ?_
 refine zu rfl (jB rfl rfl rfl) (zu rfl (zg rfl rfl) (qF (zk (zN ?_))))
 exact ⟨.inr rfl, AVle.refl _⟩
theorem f115 {g:Gls} (hs:zC1 g = true):ACall Tryz.prog G 115 [.agg (zDL g)] (.tup [.top, .top, .v (.bool (clB g))]):=by
 have hg:=zDZ hs
 have hcl:(g.ck.map eChk).length = g.ck.length:=by simp
 refine zO Tryz.func115 rfl (by kernel_rfl) rfl ?_
 refine zn (jy rfl rfl (ql rfl (zQ rfl)) (jy rfl rfl (zg rfl rfl) (jy rfl rfl (zg rfl rfl) (jy rfl rfl (zg rfl rfl) (zo (zt (zn (jy rfl rfl (zg rfl rfl) ?_))))))))
 refine zo (zF ?_)
 refine qm (ι:={ a:Nat // a <= g.ck.length /\ ∀ i, i < a -> ∀ j, i < j -> j < g.ck.length -> ctB g i j = false }) (fun a=>⟨Tryz.f115.ntmps, frL [(1, .pub (.ptr (zDL g))), (5, I (a.1:Int))], []⟩) (fun a=>g.ck.length - a.1) (⟨0, by omega, fun i h=>absurd h (by omega)⟩) ?_ ?_
 ·exact zy _ ⟨rfl, rfl, trivial⟩ (rfl)
 ·rintro ⟨a, ha⟩
  dsimp only
  refine zt (zn (jy rfl rfl (zh rfl rfl) (jy rfl rfl (zi rfl rfl zA0) (jy rfl rfl (zl rfl rfl rfl zCl) (jy rfl rfl (qA rfl rfl rfl Tryz.underlying121) (jy rfl rfl (qx rfl rfl rfl) (zo (zA rfl (fun h0=>?_) (fun h0=>?_)))))))))
  ·have hlt:a < g.ck.length:=by simpa using h0
   refine zH (zk (zt (zF (zn (jy rfl rfl (zh rfl rfl) (jy rfl rfl (zW rfl rfl rfl ⟨by omega, by omega⟩) (jy rfl rfl (zg rfl rfl) (zo (zF ?_)))))))))
   refine qm (ι:={ b:Nat // a + 1 <= b /\ b <= g.ck.length /\ ∀ j, a < j -> j < b -> ctB g a j = false }) (fun b=>⟨Tryz.f115.ntmps, frL [(1, .pub (.ptr (zDL g))), (5, I (a:Int)), (6, I (b.1:Int))], []⟩) (fun b=>g.ck.length - b.1) (⟨a + 1, by omega, by omega, fun j h1 h2=>absurd h2 (by omega)⟩) ?_ ?_
   ·exact zy _ ⟨rfl, rfl, rfl, trivial⟩ (rfl)
   ·rintro ⟨b, hb⟩
    dsimp only
    refine zt (zn (jy rfl rfl (zh rfl rfl) (jy rfl rfl (zi rfl rfl zA0) (jy rfl rfl (zl rfl rfl rfl zCl) (jy rfl rfl (qA rfl rfl rfl Tryz.underlying121) (jy rfl rfl (qx rfl rfl rfl) (zo (zA rfl (fun h1=>?_) (fun h1=>?_)))))))))
    ·have hbl:b < g.ck.length:=by simpa using h1
     refine zH (zk (zt (zF (zn (jy rfl rfl (zK rfl rfl zDX (by exact zLb rfl)) (jy rfl rfl (zh rfl rfl) (jy rfl rfl (zh rfl rfl) (jy rfl rfl (zB (av:=[_, _, _]) rfl ⟨rfl, rfl, rfl, trivial⟩ (f201 hs a b hlt hbl)) (zo (zA rfl (fun h2=>?_) (fun h2=>?_)))))))))))
     ·have hyes:=zFu hlt hbl (by omega) h2
      refine zn (jy rfl rfl (zh rfl rfl) (jy rfl rfl (zh rfl rfl) (jy rfl rfl (zg rfl rfl) (jy rfl rfl (zg rfl rfl) (jy rfl rfl (zg rfl rfl) (zo (zN (zZ (zP ?_)))))))))
      refine zP (zZ (zZ (zP (zP (zZ (zP ?_))))))
      exact ⟨.inr rfl, ⟨_, rfl, ⟨_, _, rfl, AVle.top _, ⟨_, _, rfl, AVle.top _, ⟨_, _, rfl, AVle.of (by rw [hyes]), rfl⟩⟩⟩⟩⟩
     ·refine zH (zJ (zk (zx (jy rfl rfl (zh rfl rfl) (jy rfl rfl (zW rfl rfl rfl ⟨by omega, by omega⟩) (jy rfl rfl (zg rfl rfl) (zM ?_)))))))
      exact ⟨⟨b + 1, by omega, by omega, fun j h1 hj=>(Nat.lt_succ_iff_lt_or_eq.1 hj).elim (hb.2.2 j h1) (fun e=>by subst e; exact h2)⟩, by dsimp only; omega, zy _ ⟨rfl, rfl, rfl, trivial⟩ (rfl)⟩
    ·have hbe:g.ck.length <= b:=by simpa using h1
     refine zAj (zS (zS (zAi (zJ (zk (zx (jy rfl rfl (zh rfl rfl) (jy rfl rfl (zW rfl rfl rfl ⟨by omega, by omega⟩) (jy rfl rfl (zg rfl rfl) (zM ?_))))))))))
     exact ⟨⟨a + 1, by omega, fun i hi j hij hj=>(Nat.lt_succ_iff_lt_or_eq.1 hi).elim (fun h=>ha.2 i h j hij hj) (fun e=>by subst e; exact hb.2.2 j hij (by omega))⟩, by dsimp only; omega, zy _ ⟨rfl, rfl, trivial⟩ (rfl)⟩
  ·have hno:=zF7 (by simpa using h0) ha.2
   refine zAj (zS (zS (zAi (zk (zn (jy rfl rfl (zg rfl rfl) (jy rfl rfl (zg rfl rfl) (jy rfl rfl (zg rfl rfl) (zo ?_)))))))))
   refine zN ?_
   exact ⟨.inr rfl, ⟨_, rfl, ⟨_, _, rfl, AVle.top _, ⟨_, _, rfl, AVle.top _, ⟨_, _, rfl, AVle.of (by rw [hno]), rfl⟩⟩⟩⟩⟩
theorem f42 {g:Gls} (hs:zC1 g = true):ACall Tryz.prog G 42 [.agg (zDL g)] (.v (.bool (!clB g))):=by
 refine zO Tryz.func42 rfl (by kernel_rfl) rfl ?_
 refine zn (jy rfl rfl (ql rfl (zQ rfl)) (jy rfl rfl (zg rfl rfl) (zo (zn (jy rfl rfl (zK rfl rfl zDX (by exact zLb rfl)) (jy rfl rfl (zB (av:=[_]) rfl ⟨rfl, trivial⟩ (f115 hs)) (jy rfl rfl (zI rfl rfl) (jy rfl rfl (zU rfl rfl rfl) ?_))))))))
 refine jy rfl rfl (zU rfl rfl rfl) (jy rfl rfl (zU rfl rfl rfl) (jy rfl rfl (qG rfl rfl) (jy rfl rfl (qG rfl rfl) (jy rfl rfl (zg rfl rfl) (zo (zn (jy rfl rfl (zh rfl rfl) (jy rfl rfl (qJ rfl rfl) (jy rfl rfl (zg rfl rfl) ?_)))))))))
 refine zo (zN ?_)
 exact ⟨.inr rfl, AVle.refl _⟩
theorem f41 (g:Gls) (hl:g.ck.length <= 1000):ACall Tryz.prog G 41 [.agg (zDL g)] (.v (.bool (zC1 g))):=by
 have hcl:(g.ck.map eChk).length = g.ck.length:=by simp
 refine zO Tryz.func41 rfl (by kernel_rfl) rfl ?_
 refine zn (jy rfl rfl (ql rfl (zQ rfl)) (jy rfl rfl (zg rfl rfl) (zo (zt (zn (jy rfl rfl (zg rfl rfl) (zo ?_)))))))
 refine zF ?_
 refine qm (ι:={ a:Nat // (g.ck.take a).all zCw = true }) (fun a=>⟨Tryz.f41.ntmps, frL [(1, .pub (.ptr (zDL g))), (3, I (a.1:Int))], []⟩) (fun a=>g.ck.length - a.1) (⟨0, by simp⟩) ?_ ?_
 ·exact zy _ ⟨rfl, rfl, trivial⟩ (rfl)
 ·rintro ⟨a, ha⟩
  dsimp only
  refine zt (zn (jy rfl rfl (zh rfl rfl) (jy rfl rfl (zi rfl rfl zA0) (jy rfl rfl (zl rfl rfl rfl zCl) (jy rfl rfl (qA rfl rfl rfl Tryz.underlying121) (jy rfl rfl (qx rfl rfl rfl) (zo (zA rfl (fun h0=>?_) (fun h0=>?_)))))))))
  ·have hlt:a < g.ck.length:=by simpa using h0
   refine zH (zk (zt (zF (zn (jy rfl rfl (zi rfl rfl zA0) (jy rfl rfl (zl rfl rfl rfl zCl) (jy rfl rfl (zh rfl rfl) ?_)))))))
   refine jy rfl rfl (zD rfl rfl rfl zDM (by omega) (by exact zBh (k:=a) hlt) zDJ) ?_
   refine jy rfl rfl (zi rfl rfl zDA) (jy rfl rfl (zl rfl rfl rfl ty3) (jy rfl rfl (zB (av:=[_]) rfl ⟨rfl, trivial⟩ (f112 _)) (jy rfl rfl (qJ rfl rfl) (jy rfl rfl (zh rfl rfl) (zjW rfl rfl rfl (fun hg=>zi rfl rfl zA0) (zjW rfl rfl rfl (fun hg=>zl rfl (if_pos hg) rfl zCl) (zjW rfl rfl rfl (fun hg=>zh rfl rfl) ?_)))))))
   refine zjW rfl rfl rfl (fun hg=>zD rfl (if_pos hg) (if_pos hg) zDM (by omega) (by exact zBh (k:=a) hlt) zDJ) ?_
   refine zjW rfl rfl rfl (fun hg=>zi rfl (if_pos hg) zDt) (zjW rfl rfl rfl (fun hg=>zK rfl (if_pos hg) zuz (by exact zLb rfl)) (zjW rfl rfl rfl (fun hg=>zB (av:=[_, _, _]) rfl ⟨((if_pos hg)), rfl, rfl, trivial⟩ (f113 _ _ _ _)) (zjW rfl rfl rfl (fun hg=>qJ rfl (if_pos hg)) (jy rfl rfl (jf rfl rfl rfl rfl) (zo (zA rfl (fun h1=>?_) (fun h1=>?_)))))))
   ·have hbad:zCw g.ck[a] = false:=by simp only[zCw]; cases hv:inB g.ck[a].t 0 400 <;> simp_all
    refine zn (jy rfl rfl (zg rfl rfl) (zo (zN (zZ (zP (zP (zZ (zP ?_))))))))
    exact ⟨.inr rfl, AVle.of (by rw [zC1, zDH hlt hbad]; rfl)⟩
   ·have hok:zCw g.ck[a] = true:=by simp only[zCw]; simpa using h1
    refine zH (zJ (zk (zx (jy rfl rfl (zh rfl rfl) (jy rfl rfl (zW rfl rfl rfl ⟨by omega, by omega⟩) (jy rfl rfl (zg rfl rfl) (zM ?_)))))))
    exact ⟨⟨a + 1, zDz hlt ha hok⟩, by dsimp only; omega, zy _ ⟨rfl, rfl, trivial⟩ (rfl)⟩
  ·have hall:=zDG (p:=zCw) (by simpa using h0) ha
   refine zAj (zS (zS (zAi (zk (zn (jy rfl rfl (zi rfl rfl zEy) (jy rfl rfl (zK rfl rfl zuz (by exact zLb rfl)) (jy rfl rfl (zB (av:=[_, _, _]) rfl ⟨rfl, rfl, rfl, trivial⟩ (f113 _ _ _ _)) (jy rfl rfl (zh rfl rfl) (zjW rfl rfl rfl (fun hg=>zi rfl rfl zEE) ?_))))))))))
   refine zjW rfl rfl rfl (fun hg=>zK rfl (if_pos hg) zuz (by exact zLb rfl)) (zjW rfl rfl rfl (fun hg=>zB (av:=[_, _, _]) rfl ⟨((if_pos hg)), rfl, rfl, trivial⟩ (f113 _ _ _ _)) (jy rfl rfl (jg rfl rfl rfl rfl) (jy rfl rfl (zh rfl rfl) (zjW rfl rfl rfl (fun hg=>zi rfl rfl zDO) (zjW rfl rfl rfl (fun hg=>zl rfl (if_pos hg) rfl ty3) (zjW rfl rfl rfl (fun hg=>zB (av:=[_, _, _]) rfl ⟨((if_pos hg)), rfl, rfl, trivial⟩ (f114 _ _ _)) (jy rfl rfl (jg rfl rfl rfl rfl) (jy rfl rfl (zh rfl rfl) (zjW rfl rfl rfl (fun hg=>zi rfl rfl zEI) (zjW rfl rfl rfl (fun hg=>zl rfl (if_pos hg) rfl ty3) (zjW rfl rfl rfl (fun hg=>zB (av:=[_, _, _]) rfl ⟨((if_pos hg)), rfl, rfl, trivial⟩ (f114 _ _ _)) ?_)))))))))))
   refine jy rfl rfl (jg rfl rfl rfl rfl) (jy rfl rfl (zh rfl rfl) (zjW rfl rfl rfl (fun hg=>zi rfl rfl zEq) (zjW rfl rfl rfl (fun hg=>zl rfl (if_pos hg) rfl ty3) (zjW rfl rfl rfl (fun hg=>zB (av:=[_, _, _]) rfl ⟨((if_pos hg)), rfl, rfl, trivial⟩ (f114 _ _ _)) (jy rfl rfl (jg rfl rfl rfl rfl) (jy rfl rfl (zh rfl rfl) (zjW rfl rfl rfl (fun hg=>zi rfl rfl zEK) (zjW rfl rfl rfl (fun hg=>zl rfl (if_pos hg) rfl ty3) (zjW rfl rfl rfl (fun hg=>zB (av:=[_, _, _]) rfl ⟨((if_pos hg)), rfl, rfl, trivial⟩ (f114 _ _ _)) (jy rfl rfl (jg rfl rfl rfl rfl) (jy rfl rfl (zh rfl rfl) ?_)))))))))))
   refine zjW rfl rfl rfl (fun hg=>zi rfl rfl zA0) (zjW rfl rfl rfl (fun hg=>zl rfl (if_pos hg) rfl zCl) (zjW rfl rfl rfl (fun hg=>qA rfl rfl (if_pos hg) Tryz.underlying121) (zjW rfl rfl rfl (fun hg=>zbt rfl (if_pos hg) rfl) (jy rfl rfl (jg rfl rfl rfl rfl) (jy rfl rfl (zg rfl rfl) (zo (zN ?_)))))))
   exact ⟨.inr rfl, AVle.of (by rw [zC1, hall]; simp [Bool.and_assoc])⟩
def zC3 (a b c:Int):Bool:=inB a 0 100000 && inB c 0 100000 && inB b 0 1000
def zC7 (a b c:Int):Bool:=inB a 0 10000 && inB c 0 10000 && inB b 0 100
def s6B (k:Int) (l:List Int):Bool:=l.all (fun x=>inB x 0 100) && (inB k 2 3 && inB (l.length:Int) 1 3)
theorem f46 (a b c:Int):ACall Tryz.prog G 46 [.agg [ei a, ei b, ei c]] (.v (.bool (zC3 a b c))):=by
 refine zO Tryz.func46 rfl (by kernel_rfl) rfl ?_
 refine zn (jy rfl rfl (ql rfl (zQ rfl)) (jy rfl rfl (zg rfl rfl) (zo (zn (jy rfl rfl (zi rfl rfl zEb) (jy rfl rfl (zl rfl rfl rfl ty3) (jy rfl rfl (zB (av:=[_, _, _]) rfl ⟨rfl, rfl, rfl, trivial⟩ (f119 _ _ _)) (jy rfl rfl (zh rfl rfl) ?_))))))))
 refine zjW rfl rfl rfl (fun hg=>zi rfl rfl zEi) (zjW rfl rfl rfl (fun hg=>zl rfl (if_pos hg) rfl ty3) (zjW rfl rfl rfl (fun hg=>zB (av:=[_, _, _]) rfl ⟨((if_pos hg)), rfl, rfl, trivial⟩ (f119 _ _ _)) (jy rfl rfl (jg rfl rfl rfl rfl) (jy rfl rfl (zh rfl rfl) (zjW rfl rfl rfl (fun hg=>zi rfl rfl zEj) (zjW rfl rfl rfl (fun hg=>zl rfl (if_pos hg) rfl ty3) (zjW rfl rfl rfl (fun hg=>zB (av:=[_, _, _]) rfl ⟨((if_pos hg)), rfl, rfl, trivial⟩ (f119 _ _ _)) (jy rfl rfl (jg rfl rfl rfl rfl) (jy rfl rfl (zg rfl rfl) (zo ?_))))))))))
 refine zN ?_
 exact ⟨.inr rfl, AVle.of (by simp [zC3, Bool.and_assoc])⟩
theorem f43 (a b c:Int):ACall Tryz.prog G 43 [.agg [ei a, ei b, ei c]] (.v (.bool (zC7 a b c))):=by
 refine zO Tryz.func43 rfl (by kernel_rfl) rfl ?_
 refine zn (jy rfl rfl (ql rfl (zQ rfl)) (jy rfl rfl (zg rfl rfl) (zo (zn (jy rfl rfl (zi rfl rfl zEd) (jy rfl rfl (zl rfl rfl rfl ty3) (jy rfl rfl (zB (av:=[_, _, _]) rfl ⟨rfl, rfl, rfl, trivial⟩ (f67 _ _ _)) (jy rfl rfl (zh rfl rfl) ?_))))))))
 refine zjW rfl rfl rfl (fun hg=>zi rfl rfl zEh) (zjW rfl rfl rfl (fun hg=>zl rfl (if_pos hg) rfl ty3) (zjW rfl rfl rfl (fun hg=>zB (av:=[_, _, _]) rfl ⟨((if_pos hg)), rfl, rfl, trivial⟩ (f67 _ _ _)) (jy rfl rfl (jg rfl rfl rfl rfl) (jy rfl rfl (zh rfl rfl) (zjW rfl rfl rfl (fun hg=>zi rfl rfl zEa) (zjW rfl rfl rfl (fun hg=>zl rfl (if_pos hg) rfl ty3) (zjW rfl rfl rfl (fun hg=>zB (av:=[_, _, _]) rfl ⟨((if_pos hg)), rfl, rfl, trivial⟩ (f67 _ _ _)) (jy rfl rfl (jg rfl rfl rfl rfl) (jy rfl rfl (zg rfl rfl) (zo ?_))))))))))
 refine zN ?_
 exact ⟨.inr rfl, AVle.of (by simp [zC7, Bool.and_assoc])⟩
end Hs
end Go.Av
end
section
namespace Go.Av
namespace Hs
open Go.Proofs
set_option maxRecDepth 100000
set_option maxHeartbeats 1000000
variable {G:Glob}
theorem zAp:fldIs Tryz.prog 37 0 0 = true:=by kernel_rfl
theorem kS:tyIs Tryz.prog 22 false 1 = true:=by kernel_rfl
theorem zaC:kw Tryz.prog 22 10 = true:=by kernel_rfl
theorem zBV:fldIs Tryz.prog 125 0 0 = true:=by kernel_rfl
theorem zAq:fldIs Tryz.prog 37 1 1 = true:=by kernel_rfl
theorem zqf:fldIs Tryz.prog 26 0 0 = true:=by kernel_rfl
theorem zcX:tyIs Tryz.prog 23 false 1 = true:=by kernel_rfl
theorem zqo:fldIs Tryz.prog 26 1 1 = true:=by kernel_rfl
theorem zDs:fldIs Tryz.prog 37 6 10 = true:=by kernel_rfl
theorem zBp:fldIs Tryz.prog 37 8 20 = true:=by kernel_rfl
theorem zDN:fldIs Tryz.prog 133 1 1 = true:=by kernel_rfl
theorem zEH:fldIs Tryz.prog 133 0 0 = true:=by kernel_rfl
theorem zDW:fldIs Tryz.prog 133 2 2 = true:=by kernel_rfl
theorem zum:tyIs Tryz.prog 82 false 1 = true:=by kernel_rfl
theorem ztQ:(Tryz.prog.info? 69).bind (·.zero) = some (.agg #[.int .i64 0, .int .i64 0, .int .i64 0, .slice none 0 0]):=by kernel_rfl
theorem zEm:fldIs Tryz.prog 37 3 7 = true:=by kernel_rfl
theorem zEf:fldIs Tryz.prog 37 4 8 = true:=by kernel_rfl
theorem zET:fldIs Tryz.prog 37 5 9 = true:=by kernel_rfl
theorem zuj:vM Tryz.prog 69 [(0, 1), (1, 1), (2, 1), (3, 1)] [.int .i64 0, .int .i64 0, .int .i64 0, .slice none 0 0]:=⟨_, Tryz.underlying69, by kernel_rfl, by kernel_rfl⟩
theorem zf2:tyIs Tryz.prog 69 true 4 = true:=by kernel_rfl
structure BSt where
 g:Gls
 pt:Int
structure Sut where
 st:List BSt
 code:Wr.Cod
 op:Int
 fr:Int
 mo:Int
 wide:Int
 rows:Int
 slope:Int
 w:Wt
 cls:Int
 wts:List Int
 pb:Int
 pr:Int
 pl:Int
 days:Int
def eBSt (s:BSt):List AV:=[ei s.g.hl, ei s.g.hh, ei s.g.gl, ei s.g.gh, ei s.g.dr, ei s.g.rd, ei s.g.ea, ei s.g.sl, .sl (s.g.ck.map eChk), ei s.pt]
def eSut (s:Sut):List AV:=[.sl (s.st.map eBSt), .sl (s.code.fields.map Wr.eSpn), eI s.code.turns, ei s.code.most, ei s.op, ei s.fr, ei s.mo, ei s.wide, ei s.rows, ei s.slope,
 ei s.w.n, .sl (s.w.reps.map eRep), .sl (s.w.lnks.map eLnk), .sl (s.w.prts.map ePrt), ei s.w.fall, ei s.w.win, ei s.w.hold, ei s.w.dawn, ei s.w.dusk, ei s.cls, eI s.wts, ei s.pb, ei s.pr, ei s.pl, ei s.days]
def mpS (s:Sut):Ct.Mp:=⟨s.wide, s.rows, s.slope, []⟩
def smB (s:Sut):Bool:=(s.st.take 6).all (fun x=>decide ((x.g.ck.length:Int) <= 15)) && (decide ((s.st.length:Int) <= 5) && decide ((s.code.fields.length:Int) <= 5) && decide ((s.code.turns.length:Int) <= 14) && decide ((s.w.reps.length:Int) <= 12) && decide ((s.w.lnks.length:Int) <= 12) && decide ((s.w.prts.length:Int) <= 6) && decide ((s.wts.length:Int) <= 5))
def zCs (s:Sut) (x:BSt):Bool:=Ct.inB x.pt 0 (s.wide * s.rows - 1) && zC1 x.g && !clB x.g
def suB (s:Sut):Bool:=(inB (s.st.length:Int) 1 3 && inB s.days 1 4 && Ct.mapB (mpS s)) && (s.st.all (zCs s) && (Wr.codB s.code && zC7 s.op s.fr s.mo && zBD s.w && s6B s.cls s.wts && zC3 s.pb s.pr s.pl))
theorem zBL {s:Sut} (h:smB s = true):(s.st.length <= 5 /\ s.code.fields.length <= 5 /\ s.code.turns.length <= 14 /\ s.w.reps.length <= 12 /\ s.w.lnks.length <= 12 /\ s.w.prts.length <= 6 /\ s.wts.length <= 5) /\ ∀ x ∈ s.st, x.g.ck.length <= 15:=by
 simp only[smB, zLa, decide_eq_true_eq] at h
 refine ⟨by omega, fun x hx=>?_⟩
 have h1:=h.1
 rw [List.take_of_length_le (by omega), List.all_eq_true] at h1
 have:=h1 x hx
 simp only[decide_eq_true_eq] at this
 omega
theorem zGm {α:Type} {p:α -> Bool} {l:List α} {k:Nat} (h6:k <= 6) (h:(l.take k).all p = true) (he:¬ (k < l.length /\ k < 6)):(l.take 6).all p = true:=by
 by_cases hk:k < 6
 ·have hl:l.length <= k:=by omega
  rw [List.take_of_length_le hl] at h
  rw [List.take_of_length_le (by omega)]; exact h
 ·rw [show (6:Nat) = k by omega]; exact h
theorem zGy {α:Type} {p:α -> Bool} {l:List α} {k:Nat} (h6:k < 6) (hk:k < l.length) (h:p l[k] = false):(l.take 6).all p = false:=by
 rw [List.all_eq_false]
 exact ⟨l[k], List.mem_iff_getElem.2 ⟨k, by simp; omega, by simp⟩, by simp [h]⟩
theorem f6 (s:Sut):ACall Tryz.prog G 6 [.agg (eSut s)] (.v (.bool (smB s))):=by
 have hm:(s.st.map eBSt).length = s.st.length:=by simp
 refine zO Tryz.func6 rfl (by kernel_rfl) rfl ?_
 refine zn (jy rfl rfl (ql rfl (zQ rfl)) (jy rfl rfl (zg rfl rfl) (zo (zt (zn (jy rfl rfl (zg rfl rfl) (zo ?_)))))))
 refine zF ?_
 refine qm (ι:={ a:Nat // a <= 6 /\ (s.st.take a).all (fun x:BSt=>decide ((x.g.ck.length:Int) <= 15)) = true }) (fun a=>⟨Tryz.f6.ntmps, frL [(1, .pub (.ptr (eSut s))), (3, I (a.1:Int))], []⟩) (fun a=>6 - a.1) (⟨0, by omega, by simp⟩) ?_ ?_
 ·exact zy _ ⟨rfl, rfl, trivial⟩ (rfl)
 ·rintro ⟨a, ha⟩
  dsimp only
  refine zt (zn (jy rfl rfl (zh rfl rfl) (jy rfl rfl (zi rfl rfl zAp) (jy rfl rfl (zl rfl rfl rfl kS) (jy rfl rfl (qA rfl rfl rfl Tryz.underlying22) (jy rfl rfl (qx rfl rfl rfl) (jy rfl rfl (zh rfl rfl) (zjW rfl rfl rfl (fun hg=>zh rfl rfl) (zjW rfl rfl rfl (fun hg=>qx rfl (if_pos hg) rfl) (jy rfl rfl (jg rfl rfl rfl rfl) ?_))))))))))
  refine zo (zA rfl (fun h0=>?_) (fun h0=>?_))
  ·have hlt:a < s.st.length /\ a < 6:=by simp at h0; omega
   refine zH (zk (zt (zF (zn (jy rfl rfl (zi rfl rfl zAp) (jy rfl rfl (zl rfl rfl rfl kS) (jy rfl rfl (zh rfl rfl) ?_)))))))
   refine jy rfl rfl (zD rfl rfl rfl zaC (by omega) (by exact zBh (k:=a) hlt.1) (zz7 fun _=>rfl)) ?_
   refine jy rfl rfl (zi rfl rfl zBV) (jy rfl rfl (zi rfl rfl zA0) (jy rfl rfl (zl rfl rfl rfl zCl) (jy rfl rfl (qA rfl rfl rfl Tryz.underlying121) (jy rfl rfl (jB rfl rfl rfl) (zo (zA rfl (fun h1=>?_) (fun h1=>?_)))))))
   ·have hbad:(s.st.take 6).all (fun x:BSt=>decide ((x.g.ck.length:Int) <= 15)) = false:=zGy hlt.2 hlt.1 (by simp at h1; simp; omega)
    refine zn (jy rfl rfl (zg rfl rfl) (zo (zN (zZ (zP (zP (zZ (zP ?_))))))))
    exact ⟨.inr rfl, AVle.of (by rw [smB, hbad]; rfl)⟩
   ·have hok:((fun x:BSt=>decide ((x.g.ck.length:Int) <= 15))) s.st[a] = true:=by simp at h1; simp; omega
    refine zH (zJ (zk (zx (jy rfl rfl (zh rfl rfl) (jy rfl rfl (zW rfl rfl rfl ⟨by omega, by omega⟩) (jy rfl rfl (zg rfl rfl) (zM ?_)))))))
    exact ⟨⟨a + 1, by omega, zDz hlt.1 ha.2 hok⟩, by dsimp only; omega, zy _ ⟨rfl, rfl, trivial⟩ (rfl)⟩
  ·have hall:=zGm (p:=(fun x:BSt=>decide ((x.g.ck.length:Int) <= 15))) ha.1 ha.2 (by simp at h0; omega)
   refine zAj (zS (zS (zAi (zk (zn (jy rfl rfl (zi rfl rfl zAp) (jy rfl rfl (zl rfl rfl rfl kS) (jy rfl rfl (qA rfl rfl rfl Tryz.underlying22) (jy rfl rfl (zbt rfl rfl rfl) (jy rfl rfl (zh rfl rfl) ?_))))))))))
   refine zjW rfl rfl rfl (fun hg=>zi rfl rfl zAq) (zjW rfl rfl rfl (fun hg=>zi rfl (if_pos hg) zqf) (zjW rfl rfl rfl (fun hg=>zl rfl (if_pos hg) rfl zcX) (zjW rfl rfl rfl (fun hg=>qA rfl rfl (if_pos hg) Tryz.underlying23) (zjW rfl rfl rfl (fun hg=>zbt rfl (if_pos hg) rfl) (jy rfl rfl (jg rfl rfl rfl rfl) (jy rfl rfl (zh rfl rfl) (zjW rfl rfl rfl (fun hg=>zi rfl rfl zAq) (zjW rfl rfl rfl (fun hg=>zi rfl (if_pos hg) zqo) (zjW rfl rfl rfl (fun hg=>zl rfl (if_pos hg) rfl kN) (zjW rfl rfl rfl (fun hg=>qA rfl rfl (if_pos hg) Tryz.underlying24) (zjW rfl rfl rfl (fun hg=>zbt rfl (if_pos hg) rfl) ?_)))))))))))
   refine jy rfl rfl (jg rfl rfl rfl rfl) (jy rfl rfl (zh rfl rfl) (zjW rfl rfl rfl (fun hg=>zi rfl rfl zDs) (zjW rfl rfl rfl (fun hg=>zi rfl (if_pos hg) zzR) (zjW rfl rfl rfl (fun hg=>zl rfl (if_pos hg) rfl zq0) (zjW rfl rfl rfl (fun hg=>qA rfl rfl (if_pos hg) Tryz.underlying29) (zjW rfl rfl rfl (fun hg=>zbt rfl (if_pos hg) rfl) (jy rfl rfl (jg rfl rfl rfl rfl) (jy rfl rfl (zh rfl rfl) (zjW rfl rfl rfl (fun hg=>zi rfl rfl zDs) (zjW rfl rfl rfl (fun hg=>zi rfl (if_pos hg) zBn) (zjW rfl rfl rfl (fun hg=>zl rfl (if_pos hg) rfl zei) ?_)))))))))))
   refine zjW rfl rfl rfl (fun hg=>qA rfl rfl (if_pos hg) Tryz.underlying30) (zjW rfl rfl rfl (fun hg=>zbt rfl (if_pos hg) rfl) (jy rfl rfl (jg rfl rfl rfl rfl) (jy rfl rfl (zh rfl rfl) (zjW rfl rfl rfl (fun hg=>zi rfl rfl zDs) (zjW rfl rfl rfl (fun hg=>zi rfl (if_pos hg) zAa) (zjW rfl rfl rfl (fun hg=>zl rfl (if_pos hg) rfl zBt) (zjW rfl rfl rfl (fun hg=>qA rfl rfl (if_pos hg) Tryz.underlying31) (zjW rfl rfl rfl (fun hg=>zbt rfl (if_pos hg) rfl) (jy rfl rfl (jg rfl rfl rfl rfl) (jy rfl rfl (zh rfl rfl) (zjW rfl rfl rfl (fun hg=>zi rfl rfl zBp) ?_)))))))))))
   refine zjW rfl rfl rfl (fun hg=>zl rfl (if_pos hg) rfl kN) (zjW rfl rfl rfl (fun hg=>qA rfl rfl (if_pos hg) Tryz.underlying24) (zjW rfl rfl rfl (fun hg=>zbt rfl (if_pos hg) rfl) (jy rfl rfl (jg rfl rfl rfl rfl) (jy rfl rfl (zg rfl rfl) (zo (zN ?_))))))
   exact ⟨.inr rfl, AVle.of (by rw [smB, hall]; simp [Bool.and_assoc])⟩
theorem f45 (c:Int) (l:List Int) (hl:l.length <= 1000):ACall Tryz.prog G 45 [.agg [ei c, eI l, .v (.slice none 0 0)]] (.v (.bool (s6B c l))):=by
 have hm:(l.map fun n=>[ei n]).length = l.length:=by simp
 obtain ⟨z, hz⟩:∃ z:Int, z = 0:=⟨0, rfl⟩
 refine zO Tryz.func45 rfl (by kernel_rfl) rfl ?_
 refine zn (jy rfl rfl (ql rfl (zQ rfl)) (jy rfl rfl (zg rfl rfl) (zo (zt (zn (jy rfl rfl (zg rfl rfl) (zo ?_)))))))
 refine zF ?_
 refine qm (ι:={ a:Nat // (l.take a).all (fun x:Int=>inB x 0 100) = true }) (fun a=>⟨Tryz.f45.ntmps, frL [(1, .pub (.ptr [ei c, eI l, .v (.slice none 0 0)])), (3, I (a.1:Int))], []⟩) (fun a=>l.length - a.1) (⟨0, by simp⟩) ?_ ?_
 ·exact zy _ ⟨rfl, rfl, trivial⟩ (rfl)
 ·rintro ⟨a, ha⟩
  dsimp only
  refine zt (zn (jy rfl rfl (zh rfl rfl) (jy rfl rfl (zi rfl rfl zDN) (jy rfl rfl (zl rfl rfl rfl kN) (jy rfl rfl (qA rfl rfl rfl Tryz.underlying24) (jy rfl rfl (qx rfl rfl rfl) (zo (zA rfl (fun h0=>?_) (fun h0=>?_)))))))))
  ·have hlt:a < l.length:=by simpa using h0
   refine zH (zk (zt (zF (zn (jy rfl rfl (zi rfl rfl zDN) (jy rfl rfl (zl rfl rfl rfl kN) (jy rfl rfl (zh rfl rfl) ?_)))))))
   refine jy rfl rfl (zD rfl rfl rfl zjc (by omega) (by exact zBm (i:=a) hlt) zBA) ?_
   refine jy rfl rfl (zl rfl rfl rfl ty3) (jy rfl rfl (zB (av:=[_, _, _]) rfl ⟨rfl, rfl, rfl, trivial⟩ (f119 _ _ _)) (jy rfl rfl (qJ rfl rfl) (zo (zA rfl (fun h1=>?_) (fun h1=>?_)))))
   ·have hbad:(fun x:Int=>inB x 0 100) l[a] = false:=by simpa using h1
    refine zn (jy rfl rfl (zg rfl rfl) (zo (zN (zZ (zP (zP (zZ (zP ?_))))))))
    exact ⟨.inr rfl, AVle.of (by rw [s6B, zDH hlt hbad]; rfl)⟩
   ·have hok:(fun x:Int=>inB x 0 100) l[a] = true:=by simpa using h1
    refine zH (zJ (zk (zx (jy rfl rfl (zh rfl rfl) (jy rfl rfl (zW rfl rfl rfl ⟨by omega, by omega⟩) (jy rfl rfl (zg rfl rfl) (zM ?_)))))))
    exact ⟨⟨a + 1, zDz hlt ha hok⟩, by dsimp only; omega, zy _ ⟨rfl, rfl, trivial⟩ (rfl)⟩
  ·have hall:=zDG (p:=fun x:Int=>inB x 0 100) (by simpa using h0) ha
   refine zAj (zS (zS (zAi (zk (zt (zn (jy rfl rfl (zi rfl rfl zEH) (jy rfl rfl (zl rfl rfl rfl ty3) (jy rfl rfl (zB (av:=[_, _, _]) rfl ⟨rfl, rfl, rfl, trivial⟩ (f119 _ _ _)) (jy rfl rfl (qJ rfl rfl) ?_))))))))))
   refine jy rfl rfl (zh rfl rfl) (zjW rfl rfl rfl (fun hg=>zi rfl rfl zDN) (zjW rfl rfl rfl (fun hg=>zl rfl (if_pos hg) rfl kN) (zjW rfl rfl rfl (fun hg=>qA rfl rfl (if_pos hg) Tryz.underlying24) (zjW rfl rfl rfl (fun hg=>zB (av:=[_, _, _]) rfl ⟨((if_pos hg)), rfl, rfl, trivial⟩ (f119 _ _ _)) (zjW rfl rfl rfl (fun hg=>qJ rfl (if_pos hg)) (jy rfl rfl (jf rfl rfl rfl rfl) (jy rfl rfl (zh rfl rfl) (zjW rfl rfl rfl (fun hg=>zi rfl rfl zDW) (zjW rfl rfl rfl (fun hg=>zl rfl (if_pos hg) rfl zum) (zjW rfl rfl rfl (fun hg=>zz2 rfl (if_pos hg) Tryz.underlying82) (zjW rfl rfl rfl (fun hg=>jB rfl (if_pos hg) rfl) ?_)))))))))))
   refine jy rfl rfl (jf rfl rfl rfl rfl) (zo (zA rfl (fun h2=>?_) (fun h2=>?_)))
   ·have hno:s6B c l = false:=by
     rw [s6B, hall, Bool.true_and]
     cases hv1:inB c 2 3 <;> cases hv2:inB (l.length:Int) 1 3 <;> simp_all
    refine zn (jy rfl rfl (zg rfl rfl) (zo (zN (zP ?_))))
    exact ⟨.inr rfl, AVle.of (by rw [hno])⟩
   ·have hyes:s6B c l = true:=by
     rw [s6B, hall, Bool.true_and]
     cases hv1:inB c 2 3 <;> cases hv2:inB (l.length:Int) 1 3 <;> simp_all
    refine zH (zk (zt (zn (jy rfl rfl (zg rfl rfl) (zo (zF ?_))))))
    refine qm (ι:={ k:Nat // k < 1 }) (fun k=>match k.1 with | _=>⟨Tryz.f45.ntmps, frL [(1, .pub (.ptr [ei c, eI l, .v (.slice none 0 0)])), (4, I 0)], []⟩) (fun k=>1 - k.1) (⟨0, by omega⟩) ?_ ?_
    ·exact zy _ ⟨rfl, rfl, trivial⟩ (rfl)
    ·rintro ⟨k, hk⟩
     have hk3:k = 0:=by omega
     rcases hk3 with rfl
     ·dsimp only
      refine zt (zn (jy rfl rfl (zh rfl rfl) (jy rfl rfl (zi rfl rfl zDW) (jy rfl rfl (zl rfl rfl rfl zum) (jy rfl rfl (zz2 rfl rfl Tryz.underlying82) (jy rfl rfl (qx rfl rfl rfl) (zo (zA rfl (fun h3=>?_) (fun h3=>?_)))))))))
      ·exfalso; simp at h3
      ·refine zAj (zS (zS (zAi (zk (zn (jy rfl rfl (zg rfl rfl) (zo (zN ?_))))))))
       exact ⟨.inr rfl, AVle.of (by rw [hyes])⟩
theorem f40 (s:Sut):ACall Tryz.prog G 40 [.agg (eSut s), .v (.slice none 0 0)] (.agg (Ct.eMp (mpS s))):=by
 refine zO Tryz.func40 rfl (by kernel_rfl) rfl ?_
 refine zn (jy rfl rfl (ql rfl (zQ rfl)) (qL rfl (jr rfl rfl ztQ rfl rfl) (zo (zn (jy rfl rfl (zi rfl rfl zEm) (jy rfl rfl (zl rfl rfl rfl ty3) (jy rfl rfl (zi rfl rfl zEf) (jy rfl rfl (zl rfl rfl rfl ty3) ?_))))))))
 refine jy rfl rfl (zi rfl rfl zET) (jy rfl rfl (zl rfl rfl rfl ty3) (jy rfl rfl (zh rfl rfl) ?_))
 refine jy rfl rfl (yl (cs:=[_, _, _, _]) rfl zuj rfl ⟨_, _, rfl, (qU rfl), ⟨_, _, rfl, (qU rfl), ⟨_, _, rfl, (qU rfl), ⟨_, _, rfl, (qU rfl), rfl⟩⟩⟩⟩ (by rfl) (by simp [ofV])) ?_
 refine qL rfl (qw rfl rfl rfl rfl rfl rfl (zQ rfl) zf2 (by rfl) (by exact zLb rfl)) ?_
 refine zo (zN ?_)
 exact ⟨.inr rfl, zcp rfl (jd rfl rfl rfl rfl zf2 rfl ⟨_, _, rfl, AVle.refl _, ⟨_, _, rfl, AVle.refl _, ⟨_, _, rfl, AVle.refl _, ⟨_, _, rfl, AVle.nil, rfl⟩⟩⟩⟩)⟩
end Hs
end Go.Av
end
