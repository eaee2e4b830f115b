
import Derived.Test.YtaphehlgijlfeaaGreatDoorWiQ4
import Derived.Test.YtaphehlgijlfeaaGreatDoorWiP
import Derived.Test.YtaphehlgijlfeaaGreatDoorWiK
import Derived.Test.YtaphehlgijlfeaaGreatDoorWiD
set_option linter.unusedVariables false
set_option linter.unusedSimpArgs false
section
namespace Go.Av
open Go.Proofs
set_option maxRecDepth 100000
set_option maxHeartbeats 1000000
variable {G : Glob}
theorem f54 (t : Trf) (w n : Int) (h1 : zuV t = true) (h2 : inB w 0 100 = true) (h3 : inB n 1 3 = true) : ACall Tryz.prog G 54 [.agg (ztk t), ei w, ei n] (ei (zzB t w n)) := by
 have q1 := h1
 simp only [zuV, Bool.and_eq_true, zdh] at q1
 have q2 := zdh.1 h2
 have q3 := zdh.1 h3
 obtain ⟨M, hM⟩ : ∃ M, M = max 0 (w - t.free) := ⟨_, rfl⟩
 have hM1 : 0 <= M /\ M <= 100 := by omega
 have hM2 : 0 <= t.more * M /\ t.more * M <= 1000000 := ⟨Int.mul_nonneg (by omega) (by omega), Int.le_trans (Int.mul_le_mul (show t.more <= 10000 by omega) (show M <= 100 by omega) (by omega) (by omega)) (by omega)⟩
 have hO : 0 <= t.opn + t.more * M /\ t.opn + t.more * M <= 1010000 := by omega
 have hH : 0 <= (t.opn + t.more * M + 1) / 2 /\ (t.opn + t.more * M + 1) / 2 <= 1010000 := by omega
 have hP : 0 <= (n - 1) * ((t.opn + t.more * M + 1) / 2) /\ (n - 1) * ((t.opn + t.more * M + 1) / 2) <= 2020000 := ⟨Int.mul_nonneg (by omega) (by omega), Int.le_trans (Int.mul_le_mul (show n - 1 <= 2 by omega) hH.2 (by omega) (by omega)) (by omega)⟩
 rw [hM] at hM2 hO hH hP
 refine zS Tryz.func54 rfl (by kernel_rfl) rfl ?_
 refine zl (zh (zg rfl rfl (jf rfl (zY rfl)) (zg rfl rfl (zn rfl rfl) (zo (zf (zl (zh (zg rfl rfl (zu rfl rfl zvu) (zg rfl rfl (zA rfl rfl rfl ty3) (zg rfl rfl (zu rfl rfl zvy) (zg rfl rfl (zA rfl rfl rfl ty3) ?_)))))))))))
 refine zg rfl rfl (zi rfl rfl) (zg rfl rfl (zu rfl rfl zvz) (zg rfl rfl (zA rfl rfl rfl ty3) (zg rfl rfl (ze5 rfl rfl rfl ⟨(by omega), (by omega)⟩) (zg rfl rfl (zq3 rfl rfl rfl) (zg rfl rfl (zcY rfl rfl rfl ⟨(by omega), (by omega)⟩) (zg rfl rfl (zV rfl rfl rfl ⟨(by omega), (by omega)⟩) (zg rfl rfl (zn rfl rfl) (zo (zf (zl (zh ?_)))))))))))
 refine zg rfl rfl (zi rfl rfl) (zg rfl rfl (zi rfl rfl) (zg rfl rfl (ze5 rfl rfl rfl ⟨(by omega), (by omega)⟩) (zg rfl rfl (zi rfl rfl) (zg rfl rfl (zV rfl rfl rfl ⟨(by omega), (by omega)⟩) (zg rfl rfl (zcj rfl rfl rfl ⟨(by omega), (by omega), (by omega)⟩) (zg rfl rfl (zcY rfl rfl rfl ⟨(by omega), (by omega)⟩) (zg rfl rfl (zV rfl rfl rfl ⟨(by omega), (by omega)⟩) (zg rfl rfl (zn rfl rfl) (zo (zf (zP ?_)))))))))))
 exact ⟨.inr rfl, AVle.refl _⟩
theorem zvr (nt : Nt) (hl : nt.lines.length <= 1000) {b : Bool} (h : zuA nt = b) : ACall Tryz.prog G 55 [.agg (eNt nt)] (.v (.bool b)) := h ▸ f55 nt hl
theorem zz3 {nt : Nt} {a z words most : Int} (h : rtB nt a z words most = none) : zuT nt a z most = [] := by
 unfold rtB at h
 cases hc : zuT nt a z most with
 | nil => rfl
 | cons b l => rw [hc] at h; cases h
theorem zzD {nt : Nt} {a z words most : Int} {r : List Int} (h : rtB nt a z words most = some r) : 0 < (zuT nt a z most).length /\ r = bsK (bt2 nt words) [] (zuT nt a z most) ((zuT nt a z most).length - 1) := by
 unfold rtB at h
 have hs := zw0 nt a z most
 cases hc : zuT nt a z most with
 | nil => rw [hc] at h; cases h
 | cons b l =>
  rw [hc] at h hs
  injection h with h
  refine ⟨by simp, ?_⟩
  show r = bsK (bt2 nt words) [] (b :: l) l.length
  rw [zzp, zzV hs, h]
theorem zwm (nt : Nt) (a z words most : Int) (hl : nt.lines.length <= 1000) (hok : zuE nt a z words most = true) (h : rtB nt a z words most = none) : ACall Tryz.prog G 51 [.agg (eNt nt), ei a, ei z, ei words, ei most] (.tup [.sl [], ei 0, ei 5]) := zyV nt a z words most hl hok (zz3 h)
theorem zwo (nt : Nt) (a z words most : Int) (hl : nt.lines.length <= 1000) (hok : zuE nt a z words most = true) {r : List Int} (h : rtB nt a z words most = some r) : ACall Tryz.prog G 51 [.agg (eNt nt), ei a, ei z, ei words, ei most] (.tup [zO r, ei (words * prc nt r), ei 0]) := zyH nt a z words most hl hok (zzD h).1 r (zzD h).2
theorem zzz (nt : Nt) (a z words most : Int) (hn : zuA nt = true) (hw : 0 <= words /\ words <= 100) (ha : 0 <= a /\ a <= nt.offices - 1) (h : rtB nt a z words most = none) : ACall Tryz.prog G 57 [.agg (eNt nt), ei a, ei z, ei words, ei most] (.tup [.v (.slice none 0 0), .v (.bool false)]) := by
 have := f57 (G := G) nt a z words most hn hw ha
 rw [h] at this
 exact this
theorem zzt (nt : Nt) (a z words most : Int) (hn : zuA nt = true) (hw : 0 <= words /\ words <= 100) (ha : 0 <= a /\ a <= nt.offices - 1) {r : List Int} (h : rtB nt a z words most = some r) : ACall Tryz.prog G 57 [.agg (eNt nt), ei a, ei z, ei words, ei most] (.tup [zO r, .v (.bool true)]) := by
 have := f57 (G := G) nt a z words most hn hw ha
 rw [h] at this
 exact this
theorem zv3 {nt : Nt} {a z words most : Int} (hok : zuE nt a z words most = true) {r : List Int} (h : rtB nt a z words most = some r) : r.length <= 6 /\ (∀ i ∈ r, inL nt i = true) /\ 0 <= words * prc nt r /\ words * prc nt r <= 100 * 60000 := by
 have hk := zuQ hok
 have h1 := (zvB hk.1 h).1.1
 have h2 := zwW hk.1 hk.2.1 h1
 have h3 := zvi hk.1 r
 exact ⟨h2, zu8 h1, zwa hk.2.2.2.1 ⟨h3.1, by omega⟩⟩
theorem zuY (a b : Bool) (n : Int) : (((!a || !b) || decide (n < 1)) || decide (3 < n)) = !((a && b) && inB n 1 3) := by
 unfold inB
 cases a <;> cases b <;> simp <;> (rw [← decide_not, ← decide_not]; congr 1 <;> (apply decide_eq_decide.2; omega))
theorem zzg (hk : KN G) (t : Trf) (n : Int) (nt : Nt) (a z w most : Int) (hs : 14 < nt.lines.length) : ACall Tryz.prog G 10 [.agg (ztk t), ei n, .agg (eNt nt), ei a, ei z, ei w, ei most] (.v (.bool true)) := by
 refine zS Tryz.func10 rfl (by kernel_rfl) rfl ?_
 refine zl (zh (zg rfl rfl (jf rfl (zY rfl)) (zg rfl rfl (jf rfl (zY rfl)) (zg rfl rfl (zn rfl rfl) (zo (zf (zl (zl (zh (zg rfl rfl (zu rfl rfl zuy) (zg rfl rfl (zA rfl rfl rfl zuP) ?_)))))))))))
 refine zg rfl rfl (qh rfl rfl rfl Tryz.underlying71) (zg rfl rfl (qR rfl rfl rfl) (zo (zf (zx rfl (fun h0 => ?_) (fun h0 => ?_)))))
 ·
  refine zl (zh (zg rfl rfl (zy (av := []) rfl trivial hk) (zg rfl rfl (zn rfl rfl) (zo (zf (zP (zQ ?_)))))))
  exact ⟨.inr rfl, AVle.refl _⟩
 ·
  exfalso; simp at h0; omega
theorem zwS (hk : KN G) (t : Trf) (n : Int) (nt : Nt) (a z w most : Int) (hs : nt.lines.length <= 14) (hcb : (zuV t && inB w 0 100 && inB n 1 3) = false) (hnet : zuA nt = false) : ACall Tryz.prog G 10 [.agg (ztk t), ei n, .agg (eNt nt), ei a, ei z, ei w, ei most] (.v (.bool true)) := by
 refine zS Tryz.func10 rfl (by kernel_rfl) rfl ?_
 refine zl (zh (zg rfl rfl (jf rfl (zY rfl)) (zg rfl rfl (jf rfl (zY rfl)) (zg rfl rfl (zn rfl rfl) (zo (zf (zl (zl (zh (zg rfl rfl (zu rfl rfl zuy) (zg rfl rfl (zA rfl rfl rfl zuP) ?_)))))))))))
 refine zg rfl rfl (qh rfl rfl rfl Tryz.underlying71) (zg rfl rfl (qR rfl rfl rfl) (zo (zf (zx rfl (fun h0 => ?_) (fun h0 => ?_)))))
 ·
  exfalso; simp at h0; omega
 ·
  refine zC (zf (zl (zh (zg rfl rfl (zZ rfl rfl zu1 (by exact zLb rfl)) (zg rfl rfl (zi rfl rfl) (zg rfl rfl (zi rfl rfl) (zg rfl rfl (zy (av := [_, _, _]) rfl ⟨rfl, rfl, rfl, trivial⟩ (zvP t w n hcb)) (zg rfl rfl (zq rfl rfl) (zg rfl rfl (zN rfl rfl rfl) (zg rfl rfl (zN rfl rfl rfl) (zg rfl rfl (zn rfl rfl) ?_)))))))))))
  refine zg rfl rfl (zn rfl rfl) (zo (zf (zl (zh (zg rfl rfl (zZ rfl rfl qf (by exact zLb rfl)) (zg rfl rfl (zi rfl rfl) (zg rfl rfl (zi rfl rfl) (zg rfl rfl (zi rfl rfl) (zg rfl rfl (zi rfl rfl) (zg rfl rfl (zy (av := [_, _, _, _, _]) rfl ⟨rfl, rfl, rfl, rfl, rfl, trivial⟩ (zxK nt a z w most (by omega) hnet)) (zg rfl rfl (zq rfl rfl) ?_)))))))))))
  refine zg rfl rfl (zN rfl rfl rfl) (zg rfl rfl (zN rfl rfl rfl) (zg rfl rfl (zN rfl rfl rfl) (zg rfl rfl (zW rfl rfl) (zg rfl rfl (zn rfl rfl) (zg rfl rfl (zn rfl rfl) (zo (zf (zl (zl (zh (zg rfl rfl (zZ rfl rfl zu1 (by exact zLb rfl)) ?_)))))))))))
  refine zg rfl rfl (zy (av := [_]) rfl ⟨rfl, trivial⟩ (f52 t)) (zg rfl rfl (je rfl rfl) (zg rfl rfl (zi rfl rfl) (zk rfl rfl rfl (fun hg => zi rfl rfl) (zk rfl rfl rfl (fun hg => zy (av := [_]) rfl ⟨((if_pos hg)), trivial⟩ (f53 _)) (zk rfl rfl rfl (fun hg => je rfl (if_pos hg)) (zg rfl rfl (qU rfl rfl rfl rfl) (zg rfl rfl (zi rfl rfl) (zk rfl rfl rfl (fun hg => zi rfl rfl) (zk rfl rfl rfl (fun hg => qi rfl (if_pos hg) rfl) (zg rfl rfl (qU rfl rfl rfl rfl) (zg rfl rfl (zi rfl rfl) ?_)))))))))))
  refine zk rfl rfl rfl (fun hg => zi rfl rfl) (zk rfl rfl rfl (fun hg => qR rfl (if_pos hg) rfl) (zg rfl rfl (qU rfl rfl rfl rfl) (zo (zf (zx rfl (fun h1 => ?_) (fun h1 => ?_))))))
  ·
   refine zl (zh (zg rfl rfl (zi rfl rfl) (zg rfl rfl (vg rfl rfl rfl) (zg rfl rfl (zi rfl rfl) (zk rfl rfl rfl (fun hg => zi rfl rfl) (zk rfl rfl rfl (fun hg => vg rfl (rfl) rfl) (zg rfl rfl (qU rfl rfl rfl rfl) (zo (zf (zx rfl (fun h2 => ?_) (fun h2 => ?_)))))))))))
   ·
    exfalso; simp at h2
   ·
    refine zC (zf (zl (zl (zh (zg rfl rfl (zZ rfl rfl qf (by exact zLb rfl)) (zg rfl rfl (zy (av := [_]) rfl ⟨rfl, trivial⟩ (zvr nt (by omega) (b := false) hnet)) (zg rfl rfl (je rfl rfl) (zg rfl rfl (zi rfl rfl) (zk rfl rfl rfl (fun hg => zZ rfl rfl qf (by exact zLb rfl)) (zk rfl rfl rfl (fun hg => zi rfl rfl) ?_))))))))))
    refine zk (x := .pub (.tup [])) rfl rfl rfl (fun hg => absurd hg (by decide)) ?_
    refine zk (x := .pub (.tup [])) rfl rfl rfl (fun hg => absurd hg (by decide)) ?_
    refine zg rfl rfl (zU rfl rfl (fun _ => rfl) (fun h => absurd h (by decide))) ?_
    refine zg rfl rfl (zi rfl rfl) (zk rfl rfl rfl (fun hg => zZ rfl rfl qf (by exact zLb rfl)) (zk rfl rfl rfl (fun hg => zi rfl rfl) ?_))
    refine zk (x := .pub (.tup [])) rfl rfl rfl (fun hg => absurd hg (by decide)) ?_
    refine zk (x := .pub (.tup [])) rfl rfl rfl (fun hg => absurd hg (by decide)) ?_
    refine zg rfl rfl (zU rfl rfl (fun _ => rfl) (fun h => absurd h (by decide))) ?_
    refine zg rfl rfl (zi rfl rfl) (zk rfl rfl rfl (fun hg => zi rfl rfl) ?_)
    refine zk (x := .pub (.tup [])) rfl rfl rfl (fun hg => absurd hg (by decide)) ?_
    refine zk (x := .pub (.tup [])) rfl rfl rfl (fun hg => absurd hg (by decide)) ?_
    refine zg rfl rfl (zU rfl rfl (fun _ => rfl) (fun h => absurd h (by decide))) ?_
    refine zg rfl rfl (zi rfl rfl) (zk rfl rfl rfl (fun hg => zi rfl rfl) ?_)
    refine zk (x := .pub (.tup [])) rfl rfl rfl (fun hg => absurd hg (by decide)) ?_
    refine zk (x := .pub (.tup [])) rfl rfl rfl (fun hg => absurd hg (by decide)) ?_
    refine zg rfl rfl (zU rfl rfl (fun _ => rfl) (fun h => absurd h (by decide))) ?_
    refine zo (zf (zx rfl (fun h4 => ?_) (fun h4 => ?_)))
    ·
     refine zl (zh (zg rfl rfl (zi rfl rfl) (zg rfl rfl (qJ rfl rfl rfl) (zg rfl rfl (zi rfl rfl) (zk rfl rfl rfl (fun hg => zq rfl rfl) (zk rfl rfl rfl (fun hg => qh rfl rfl (rfl) Tryz.underlying23) (zk rfl rfl rfl (fun hg => qJ rfl (rfl) rfl) (zg rfl rfl (qI rfl rfl rfl rfl) (zg rfl rfl (zi rfl rfl) (zk rfl rfl rfl (fun hg => zi rfl rfl) (zk rfl rfl rfl (fun hg => qJ rfl (rfl) rfl) ?_)))))))))))
     refine zg rfl rfl (qI rfl rfl rfl rfl) (zg rfl rfl (zi rfl rfl) (zk rfl rfl rfl (fun hg => zy (av := []) rfl trivial hk) (zg rfl rfl (qI rfl rfl rfl rfl) (zg rfl rfl (zn rfl rfl) (zo (zf (zP (zQ ?_))))))))
     exact ⟨.inr rfl, AVle.of (by simp [zO])⟩
    ·
     exfalso; simp at h4
  ·
   exfalso; rw [zuY, hcb] at h1; cases h1
theorem zwP (hk : KN G) (t : Trf) (n : Int) (nt : Nt) (a z w most : Int) (hs : nt.lines.length <= 14) (hcb : (zuV t && inB w 0 100 && inB n 1 3) = false) (hnet : zuA nt = true) (hb : zuE nt a z w most = false) : ACall Tryz.prog G 10 [.agg (ztk t), ei n, .agg (eNt nt), ei a, ei z, ei w, ei most] (.v (.bool true)) := by
 have h6 := zuH hnet
 have ho : 1 <= nt.offices /\ nt.offices <= 6 := ⟨h6.1, h6.2.1⟩
 refine zS Tryz.func10 rfl (by kernel_rfl) rfl ?_
 refine zl (zh (zg rfl rfl (jf rfl (zY rfl)) (zg rfl rfl (jf rfl (zY rfl)) (zg rfl rfl (zn rfl rfl) (zo (zf (zl (zl (zh (zg rfl rfl (zu rfl rfl zuy) (zg rfl rfl (zA rfl rfl rfl zuP) ?_)))))))))))
 refine zg rfl rfl (qh rfl rfl rfl Tryz.underlying71) (zg rfl rfl (qR rfl rfl rfl) (zo (zf (zx rfl (fun h0 => ?_) (fun h0 => ?_)))))
 ·
  exfalso; simp at h0; omega
 ·
  refine zC (zf (zl (zh (zg rfl rfl (zZ rfl rfl zu1 (by exact zLb rfl)) (zg rfl rfl (zi rfl rfl) (zg rfl rfl (zi rfl rfl) (zg rfl rfl (zy (av := [_, _, _]) rfl ⟨rfl, rfl, rfl, trivial⟩ (zvP t w n hcb)) (zg rfl rfl (zq rfl rfl) (zg rfl rfl (zN rfl rfl rfl) (zg rfl rfl (zN rfl rfl rfl) (zg rfl rfl (zn rfl rfl) ?_)))))))))))
  refine zg rfl rfl (zn rfl rfl) (zo (zf (zl (zh (zg rfl rfl (zZ rfl rfl qf (by exact zLb rfl)) (zg rfl rfl (zi rfl rfl) (zg rfl rfl (zi rfl rfl) (zg rfl rfl (zi rfl rfl) (zg rfl rfl (zi rfl rfl) (zg rfl rfl (zy (av := [_, _, _, _, _]) rfl ⟨rfl, rfl, rfl, rfl, rfl, trivial⟩ (zxO nt a z w most (by omega) hnet hb)) (zg rfl rfl (zq rfl rfl) ?_)))))))))))
  refine zg rfl rfl (zN rfl rfl rfl) (zg rfl rfl (zN rfl rfl rfl) (zg rfl rfl (zN rfl rfl rfl) (zg rfl rfl (zW rfl rfl) (zg rfl rfl (zn rfl rfl) (zg rfl rfl (zn rfl rfl) (zo (zf (zl (zl (zh (zg rfl rfl (zZ rfl rfl zu1 (by exact zLb rfl)) ?_)))))))))))
  refine zg rfl rfl (zy (av := [_]) rfl ⟨rfl, trivial⟩ (f52 t)) (zg rfl rfl (je rfl rfl) (zg rfl rfl (zi rfl rfl) (zk rfl rfl rfl (fun hg => zi rfl rfl) (zk rfl rfl rfl (fun hg => zy (av := [_]) rfl ⟨((if_pos hg)), trivial⟩ (f53 _)) (zk rfl rfl rfl (fun hg => je rfl (if_pos hg)) (zg rfl rfl (qU rfl rfl rfl rfl) (zg rfl rfl (zi rfl rfl) (zk rfl rfl rfl (fun hg => zi rfl rfl) (zk rfl rfl rfl (fun hg => qi rfl (if_pos hg) rfl) (zg rfl rfl (qU rfl rfl rfl rfl) (zg rfl rfl (zi rfl rfl) ?_)))))))))))
  refine zk rfl rfl rfl (fun hg => zi rfl rfl) (zk rfl rfl rfl (fun hg => qR rfl (if_pos hg) rfl) (zg rfl rfl (qU rfl rfl rfl rfl) (zo (zf (zx rfl (fun h1 => ?_) (fun h1 => ?_))))))
  ·
   refine zl (zh (zg rfl rfl (zi rfl rfl) (zg rfl rfl (vg rfl rfl rfl) (zg rfl rfl (zi rfl rfl) (zk rfl rfl rfl (fun hg => zi rfl rfl) (zk rfl rfl rfl (fun hg => vg rfl (rfl) rfl) (zg rfl rfl (qU rfl rfl rfl rfl) (zo (zf (zx rfl (fun h2 => ?_) (fun h2 => ?_)))))))))))
   ·
    exfalso; simp at h2
   ·
    refine zC (zf (zl (zl (zh (zg rfl rfl (zZ rfl rfl qf (by exact zLb rfl)) (zg rfl rfl (zy (av := [_]) rfl ⟨rfl, trivial⟩ (zvr nt (by omega) (b := true) hnet)) (zg rfl rfl (je rfl rfl) (zg rfl rfl (zi rfl rfl) (zk rfl rfl rfl (fun hg => zZ rfl rfl qf (by exact zLb rfl)) (zk rfl rfl rfl (fun hg => zi rfl rfl) (zk rfl rfl rfl (fun hg => zy (av := [_, _]) rfl ⟨(rfl), (rfl), trivial⟩ (f56 nt _ ho)) ?_)))))))))))
    refine zk rfl rfl rfl (fun hg => je rfl (rfl)) (zg rfl rfl (qU rfl rfl rfl rfl) (zg rfl rfl (zi rfl rfl) (zk rfl rfl rfl (fun hg => zZ rfl rfl qf (by exact zLb rfl)) (zk rfl rfl rfl (fun hg => zi rfl rfl) (zk rfl rfl rfl (fun hg => zy (av := [_, _]) rfl ⟨((if_pos hg)), ((if_pos hg)), trivial⟩ (f56 nt _ ho)) (zk rfl rfl rfl (fun hg => je rfl (if_pos hg)) (zg rfl rfl (qU rfl rfl rfl rfl) (zg rfl rfl (zi rfl rfl) (zk rfl rfl rfl (fun hg => zi rfl rfl) (zk rfl rfl rfl (fun hg => zy (av := [_]) rfl ⟨((if_pos hg)), trivial⟩ (f53 _)) (zk rfl rfl rfl (fun hg => je rfl (if_pos hg)) ?_)))))))))))
    refine zg rfl rfl (qU rfl rfl rfl rfl) (zg rfl rfl (zi rfl rfl) (zk rfl rfl rfl (fun hg => zi rfl rfl) (zk rfl rfl rfl (fun hg => zy (av := [_]) rfl ⟨((if_pos hg)), trivial⟩ (f53 _)) (zk rfl rfl rfl (fun hg => je rfl (if_pos hg)) (zg rfl rfl (qU rfl rfl rfl rfl) (zo (zf (zx rfl (fun h4 => ?_) (fun h4 => ?_)))))))))
    ·
     refine zl (zh (zg rfl rfl (zi rfl rfl) (zg rfl rfl (qJ rfl rfl rfl) (zg rfl rfl (zi rfl rfl) (zk rfl rfl rfl (fun hg => zq rfl rfl) (zk rfl rfl rfl (fun hg => qh rfl rfl (rfl) Tryz.underlying23) (zk rfl rfl rfl (fun hg => qJ rfl (rfl) rfl) (zg rfl rfl (qI rfl rfl rfl rfl) (zg rfl rfl (zi rfl rfl) (zk rfl rfl rfl (fun hg => zi rfl rfl) (zk rfl rfl rfl (fun hg => qJ rfl (rfl) rfl) ?_)))))))))))
     refine zg rfl rfl (qI rfl rfl rfl rfl) (zg rfl rfl (zi rfl rfl) (zk rfl rfl rfl (fun hg => zy (av := []) rfl trivial hk) (zg rfl rfl (qI rfl rfl rfl rfl) (zg rfl rfl (zn rfl rfl) (zo (zf (zP (zQ ?_))))))))
     exact ⟨.inr rfl, AVle.of (by simp [zO])⟩
    ·
     exfalso; rw [zu7] at h4; unfold zuE at hb; rw [hnet] at hb; rw [hb] at h4; cases h4
  ·
   exfalso; rw [zuY, hcb] at h1; cases h1
theorem zwH (hk : KN G) (t : Trf) (n : Int) (nt : Nt) (a z w most : Int) (hs : nt.lines.length <= 14) (hcb : (zuV t && inB w 0 100 && inB n 1 3) = false) (hnet : zuA nt = true) (hb : zuE nt a z w most = true) (hr : rtB nt a z w most = none) : ACall Tryz.prog G 10 [.agg (ztk t), ei n, .agg (eNt nt), ei a, ei z, ei w, ei most] (.v (.bool true)) := by
 have h6 := zuH hnet
 have ho : 1 <= nt.offices /\ nt.offices <= 6 := ⟨h6.1, h6.2.1⟩
 have hq := zuQ hb
 refine zS Tryz.func10 rfl (by kernel_rfl) rfl ?_
 refine zl (zh (zg rfl rfl (jf rfl (zY rfl)) (zg rfl rfl (jf rfl (zY rfl)) (zg rfl rfl (zn rfl rfl) (zo (zf (zl (zl (zh (zg rfl rfl (zu rfl rfl zuy) (zg rfl rfl (zA rfl rfl rfl zuP) ?_)))))))))))
 refine zg rfl rfl (qh rfl rfl rfl Tryz.underlying71) (zg rfl rfl (qR rfl rfl rfl) (zo (zf (zx rfl (fun h0 => ?_) (fun h0 => ?_)))))
 ·
  exfalso; simp at h0; omega
 ·
  refine zC (zf (zl (zh (zg rfl rfl (zZ rfl rfl zu1 (by exact zLb rfl)) (zg rfl rfl (zi rfl rfl) (zg rfl rfl (zi rfl rfl) (zg rfl rfl (zy (av := [_, _, _]) rfl ⟨rfl, rfl, rfl, trivial⟩ (zvP t w n hcb)) (zg rfl rfl (zq rfl rfl) (zg rfl rfl (zN rfl rfl rfl) (zg rfl rfl (zN rfl rfl rfl) (zg rfl rfl (zn rfl rfl) ?_)))))))))))
  refine zg rfl rfl (zn rfl rfl) (zo (zf (zl (zh (zg rfl rfl (zZ rfl rfl qf (by exact zLb rfl)) (zg rfl rfl (zi rfl rfl) (zg rfl rfl (zi rfl rfl) (zg rfl rfl (zi rfl rfl) (zg rfl rfl (zi rfl rfl) (zg rfl rfl (zy (av := [_, _, _, _, _]) rfl ⟨rfl, rfl, rfl, rfl, rfl, trivial⟩ (zwm nt a z w most (by omega) hb hr)) (zg rfl rfl (zq rfl rfl) ?_)))))))))))
  refine zg rfl rfl (zN rfl rfl rfl) (zg rfl rfl (zN rfl rfl rfl) (zg rfl rfl (zN rfl rfl rfl) (zg rfl rfl (zW rfl rfl) (zg rfl rfl (zn rfl rfl) (zg rfl rfl (zn rfl rfl) (zo (zf (zl (zl (zh (zg rfl rfl (zZ rfl rfl zu1 (by exact zLb rfl)) ?_)))))))))))
  refine zg rfl rfl (zy (av := [_]) rfl ⟨rfl, trivial⟩ (f52 t)) (zg rfl rfl (je rfl rfl) (zg rfl rfl (zi rfl rfl) (zk rfl rfl rfl (fun hg => zi rfl rfl) (zk rfl rfl rfl (fun hg => zy (av := [_]) rfl ⟨((if_pos hg)), trivial⟩ (f53 _)) (zk rfl rfl rfl (fun hg => je rfl (if_pos hg)) (zg rfl rfl (qU rfl rfl rfl rfl) (zg rfl rfl (zi rfl rfl) (zk rfl rfl rfl (fun hg => zi rfl rfl) (zk rfl rfl rfl (fun hg => qi rfl (if_pos hg) rfl) (zg rfl rfl (qU rfl rfl rfl rfl) (zg rfl rfl (zi rfl rfl) ?_)))))))))))
  refine zk rfl rfl rfl (fun hg => zi rfl rfl) (zk rfl rfl rfl (fun hg => qR rfl (if_pos hg) rfl) (zg rfl rfl (qU rfl rfl rfl rfl) (zo (zf (zx rfl (fun h1 => ?_) (fun h1 => ?_))))))
  ·
   refine zl (zh (zg rfl rfl (zi rfl rfl) (zg rfl rfl (vg rfl rfl rfl) (zg rfl rfl (zi rfl rfl) (zk rfl rfl rfl (fun hg => zi rfl rfl) (zk rfl rfl rfl (fun hg => vg rfl (rfl) rfl) (zg rfl rfl (qU rfl rfl rfl rfl) (zo (zf (zx rfl (fun h2 => ?_) (fun h2 => ?_)))))))))))
   ·
    exfalso; simp at h2
   ·
    refine zC (zf (zl (zl (zh (zg rfl rfl (zZ rfl rfl qf (by exact zLb rfl)) (zg rfl rfl (zy (av := [_]) rfl ⟨rfl, trivial⟩ (zvr nt (by omega) (b := true) hnet)) (zg rfl rfl (je rfl rfl) (zg rfl rfl (zi rfl rfl) (zk rfl rfl rfl (fun hg => zZ rfl rfl qf (by exact zLb rfl)) (zk rfl rfl rfl (fun hg => zi rfl rfl) (zk rfl rfl rfl (fun hg => zy (av := [_, _]) rfl ⟨(rfl), (rfl), trivial⟩ (f56 nt _ ho)) ?_)))))))))))
    refine zk rfl rfl rfl (fun hg => je rfl (rfl)) (zg rfl rfl (qU rfl rfl rfl rfl) (zg rfl rfl (zi rfl rfl) (zk rfl rfl rfl (fun hg => zZ rfl rfl qf (by exact zLb rfl)) (zk rfl rfl rfl (fun hg => zi rfl rfl) (zk rfl rfl rfl (fun hg => zy (av := [_, _]) rfl ⟨((if_pos hg)), ((if_pos hg)), trivial⟩ (f56 nt _ ho)) (zk rfl rfl rfl (fun hg => je rfl (if_pos hg)) (zg rfl rfl (qU rfl rfl rfl rfl) (zg rfl rfl (zi rfl rfl) (zk rfl rfl rfl (fun hg => zi rfl rfl) (zk rfl rfl rfl (fun hg => zy (av := [_]) rfl ⟨((if_pos hg)), trivial⟩ (f53 _)) (zk rfl rfl rfl (fun hg => je rfl (if_pos hg)) ?_)))))))))))
    refine zg rfl rfl (qU rfl rfl rfl rfl) (zg rfl rfl (zi rfl rfl) (zk rfl rfl rfl (fun hg => zi rfl rfl) (zk rfl rfl rfl (fun hg => zy (av := [_]) rfl ⟨((if_pos hg)), trivial⟩ (f53 _)) (zk rfl rfl rfl (fun hg => je rfl (if_pos hg)) (zg rfl rfl (qU rfl rfl rfl rfl) (zo (zf (zx rfl (fun h4 => ?_) (fun h4 => ?_)))))))))
    ·
     exfalso; rw [zu7] at h4; unfold zuE at hb; rw [hnet] at hb; rw [hb] at h4; cases h4
    ·
     refine zC (zf (zl (zh (zg rfl rfl (zZ rfl rfl qf (by exact zLb rfl)) (zg rfl rfl (zi rfl rfl) (zg rfl rfl (zi rfl rfl) (zg rfl rfl (zi rfl rfl) (zg rfl rfl (zi rfl rfl) (zg rfl rfl (zy (av := [_, _, _, _, _]) rfl ⟨rfl, rfl, rfl, rfl, rfl, trivial⟩ (zzz nt a z w most hq.1 hq.2.2.2.1 hq.2.1 hr)) (zg rfl rfl (zq rfl rfl) (zg rfl rfl (zN rfl rfl rfl) ?_)))))))))))
     refine zg rfl rfl (zN rfl rfl rfl) (zg rfl rfl (zn rfl rfl) (zg rfl rfl (zn rfl rfl) (zo (zf (zl (zl (zh (zg rfl rfl (zi rfl rfl) (zg rfl rfl (je rfl rfl) (zo (zf (zx rfl (fun h5 => ?_) (fun h5 => ?_)))))))))))))
     ·
      refine zl (zh (zg rfl rfl (zi rfl rfl) (zg rfl rfl (qJ rfl rfl rfl) (zg rfl rfl (zi rfl rfl) (zk rfl rfl rfl (fun hg => zq rfl rfl) (zk rfl rfl rfl (fun hg => qh rfl rfl (rfl) Tryz.underlying23) (zk rfl rfl rfl (fun hg => qJ rfl (rfl) rfl) (zg rfl rfl (qI rfl rfl rfl rfl) (zg rfl rfl (zi rfl rfl) (zk rfl rfl rfl (fun hg => zi rfl rfl) (zk rfl rfl rfl (fun hg => qJ rfl (rfl) rfl) ?_)))))))))))
      refine zg rfl rfl (qI rfl rfl rfl rfl) (zg rfl rfl (zi rfl rfl) (zk rfl rfl rfl (fun hg => zy (av := []) rfl trivial hk) (zg rfl rfl (qI rfl rfl rfl rfl) (zg rfl rfl (zn rfl rfl) (zo (zf (zP (zQ ?_))))))))
      exact ⟨.inr rfl, AVle.of (by simp [zO])⟩
     ·
      exfalso; simp at h5
  ·
   exfalso; rw [zuY, hcb] at h1; cases h1
theorem zwz (hk : KN G) (t : Trf) (n : Int) (nt : Nt) (a z w most : Int) (hs : nt.lines.length <= 14) (hcb : (zuV t && inB w 0 100 && inB n 1 3) = false) (hnet : zuA nt = true) (hb : zuE nt a z w most = true) {r : List Int} (hr : rtB nt a z w most = some r) : ACall Tryz.prog G 10 [.agg (ztk t), ei n, .agg (eNt nt), ei a, ei z, ei w, ei most] (.v (.bool true)) := by
 have h6 := zuH hnet
 have ho : 1 <= nt.offices /\ nt.offices <= 6 := ⟨h6.1, h6.2.1⟩
 have hq := zuQ hb
 have hbd := zv3 hb hr
 refine zS Tryz.func10 rfl (by kernel_rfl) rfl ?_
 refine zl (zh (zg rfl rfl (jf rfl (zY rfl)) (zg rfl rfl (jf rfl (zY rfl)) (zg rfl rfl (zn rfl rfl) (zo (zf (zl (zl (zh (zg rfl rfl (zu rfl rfl zuy) (zg rfl rfl (zA rfl rfl rfl zuP) ?_)))))))))))
 refine zg rfl rfl (qh rfl rfl rfl Tryz.underlying71) (zg rfl rfl (qR rfl rfl rfl) (zo (zf (zx rfl (fun h0 => ?_) (fun h0 => ?_)))))
 ·
  exfalso; simp at h0; omega
 ·
  refine zC (zf (zl (zh (zg rfl rfl (zZ rfl rfl zu1 (by exact zLb rfl)) (zg rfl rfl (zi rfl rfl) (zg rfl rfl (zi rfl rfl) (zg rfl rfl (zy (av := [_, _, _]) rfl ⟨rfl, rfl, rfl, trivial⟩ (zvP t w n hcb)) (zg rfl rfl (zq rfl rfl) (zg rfl rfl (zN rfl rfl rfl) (zg rfl rfl (zN rfl rfl rfl) (zg rfl rfl (zn rfl rfl) ?_)))))))))))
  refine zg rfl rfl (zn rfl rfl) (zo (zf (zl (zh (zg rfl rfl (zZ rfl rfl qf (by exact zLb rfl)) (zg rfl rfl (zi rfl rfl) (zg rfl rfl (zi rfl rfl) (zg rfl rfl (zi rfl rfl) (zg rfl rfl (zi rfl rfl) (zg rfl rfl (zy (av := [_, _, _, _, _]) rfl ⟨rfl, rfl, rfl, rfl, rfl, trivial⟩ (zwo nt a z w most (by omega) hb hr)) (zg rfl rfl (zq rfl rfl) ?_)))))))))))
  refine zg rfl rfl (zN rfl rfl rfl) (zg rfl rfl (zN rfl rfl rfl) (zg rfl rfl (zN rfl rfl rfl) (zg rfl rfl (zW rfl rfl) (zg rfl rfl (zn rfl rfl) (zg rfl rfl (zn rfl rfl) (zo (zf (zl (zl (zh (zg rfl rfl (zZ rfl rfl zu1 (by exact zLb rfl)) ?_)))))))))))
  refine zg rfl rfl (zy (av := [_]) rfl ⟨rfl, trivial⟩ (f52 t)) (zg rfl rfl (je rfl rfl) (zg rfl rfl (zi rfl rfl) (zk rfl rfl rfl (fun hg => zi rfl rfl) (zk rfl rfl rfl (fun hg => zy (av := [_]) rfl ⟨((if_pos hg)), trivial⟩ (f53 _)) (zk rfl rfl rfl (fun hg => je rfl (if_pos hg)) (zg rfl rfl (qU rfl rfl rfl rfl) (zg rfl rfl (zi rfl rfl) (zk rfl rfl rfl (fun hg => zi rfl rfl) (zk rfl rfl rfl (fun hg => qi rfl (if_pos hg) rfl) (zg rfl rfl (qU rfl rfl rfl rfl) (zg rfl rfl (zi rfl rfl) ?_)))))))))))
  refine zk rfl rfl rfl (fun hg => zi rfl rfl) (zk rfl rfl rfl (fun hg => qR rfl (if_pos hg) rfl) (zg rfl rfl (qU rfl rfl rfl rfl) (zo (zf (zx rfl (fun h1 => ?_) (fun h1 => ?_))))))
  ·
   refine zl (zh (zg rfl rfl (zi rfl rfl) (zg rfl rfl (vg rfl rfl rfl) (zg rfl rfl (zi rfl rfl) (zk rfl rfl rfl (fun hg => zi rfl rfl) (zk rfl rfl rfl (fun hg => vg rfl (rfl) rfl) (zg rfl rfl (qU rfl rfl rfl rfl) (zo (zf (zx rfl (fun h2 => ?_) (fun h2 => ?_)))))))))))
   ·
    exfalso; simp at h2
   ·
    refine zC (zf (zl (zl (zh (zg rfl rfl (zZ rfl rfl qf (by exact zLb rfl)) (zg rfl rfl (zy (av := [_]) rfl ⟨rfl, trivial⟩ (zvr nt (by omega) (b := true) hnet)) (zg rfl rfl (je rfl rfl) (zg rfl rfl (zi rfl rfl) (zk rfl rfl rfl (fun hg => zZ rfl rfl qf (by exact zLb rfl)) (zk rfl rfl rfl (fun hg => zi rfl rfl) (zk rfl rfl rfl (fun hg => zy (av := [_, _]) rfl ⟨(rfl), (rfl), trivial⟩ (f56 nt _ ho)) ?_)))))))))))
    refine zk rfl rfl rfl (fun hg => je rfl (rfl)) (zg rfl rfl (qU rfl rfl rfl rfl) (zg rfl rfl (zi rfl rfl) (zk rfl rfl rfl (fun hg => zZ rfl rfl qf (by exact zLb rfl)) (zk rfl rfl rfl (fun hg => zi rfl rfl) (zk rfl rfl rfl (fun hg => zy (av := [_, _]) rfl ⟨((if_pos hg)), ((if_pos hg)), trivial⟩ (f56 nt _ ho)) (zk rfl rfl rfl (fun hg => je rfl (if_pos hg)) (zg rfl rfl (qU rfl rfl rfl rfl) (zg rfl rfl (zi rfl rfl) (zk rfl rfl rfl (fun hg => zi rfl rfl) (zk rfl rfl rfl (fun hg => zy (av := [_]) rfl ⟨((if_pos hg)), trivial⟩ (f53 _)) (zk rfl rfl rfl (fun hg => je rfl (if_pos hg)) ?_)))))))))))
    refine zg rfl rfl (qU rfl rfl rfl rfl) (zg rfl rfl (zi rfl rfl) (zk rfl rfl rfl (fun hg => zi rfl rfl) (zk rfl rfl rfl (fun hg => zy (av := [_]) rfl ⟨((if_pos hg)), trivial⟩ (f53 _)) (zk rfl rfl rfl (fun hg => je rfl (if_pos hg)) (zg rfl rfl (qU rfl rfl rfl rfl) (zo (zf (zx rfl (fun h4 => ?_) (fun h4 => ?_)))))))))
    ·
     exfalso; rw [zu7] at h4; unfold zuE at hb; rw [hnet] at hb; rw [hb] at h4; cases h4
    ·
     refine zC (zf (zl (zh (zg rfl rfl (zZ rfl rfl qf (by exact zLb rfl)) (zg rfl rfl (zi rfl rfl) (zg rfl rfl (zi rfl rfl) (zg rfl rfl (zi rfl rfl) (zg rfl rfl (zi rfl rfl) (zg rfl rfl (zy (av := [_, _, _, _, _]) rfl ⟨rfl, rfl, rfl, rfl, rfl, trivial⟩ (zzt nt a z w most hq.1 hq.2.2.2.1 hq.2.1 hr)) (zg rfl rfl (zq rfl rfl) (zg rfl rfl (zN rfl rfl rfl) ?_)))))))))))
     refine zg rfl rfl (zN rfl rfl rfl) (zg rfl rfl (zW rfl rfl) (zg rfl rfl (zn rfl rfl) (zo (zf (zl (zl (zh (zg rfl rfl (zi rfl rfl) (zg rfl rfl (je rfl rfl) (zo (zf (zx rfl (fun h5 => ?_) (fun h5 => ?_)))))))))))))
     ·
      exfalso; simp at h5
     ·
      refine zC (zf (zl (zh (zg rfl rfl (zi rfl rfl) (zg rfl rfl (qJ rfl rfl rfl) (zg rfl rfl (zi rfl rfl) (zk rfl rfl rfl (fun hg => zq rfl rfl) (zk rfl rfl rfl (fun hg => zq rfl rfl) (zk rfl rfl rfl (fun hg => zy (av := [_, _]) rfl ⟨(rfl), (rfl), trivial⟩ (zr7 r (by omega))) (zg rfl rfl (qI rfl rfl rfl rfl) (zg rfl rfl (zi rfl rfl) ?_)))))))))))
      refine zk rfl rfl rfl (fun hg => zi rfl rfl) (zk rfl rfl rfl (fun hg => zi rfl rfl) (zk rfl rfl rfl (fun hg => zZ rfl rfl qf (by exact zLb rfl)) (zk rfl rfl rfl (fun hg => zq rfl rfl) (zk rfl rfl rfl (fun hg => zy (av := [_, _]) rfl ⟨(rfl), (rfl), trivial⟩ (f58 nt r hnet (by omega) hbd.2.1)) ?_))))
      refine zk rfl rfl rfl (fun hg => zcY rfl (rfl) (rfl) ⟨(by first | omega | (simp at hg; omega)), (by first | omega | (simp at hg; omega))⟩) ?_
      refine zk rfl rfl rfl (fun hg => qJ rfl (rfl) (rfl)) (zg rfl rfl (qI rfl rfl rfl rfl) (zg rfl rfl (zi rfl rfl) (zk rfl rfl rfl (fun hg => zy (av := []) rfl trivial hk) (zg rfl rfl (qI rfl rfl rfl rfl) (zg rfl rfl (zn rfl rfl) (zo (zf (zP ?_))))))))
      exact ⟨.inr rfl, AVle.of (by simp [zO])⟩
  ·
   exfalso; rw [zuY, hcb] at h1; cases h1
theorem zxm (hk : KN G) (t : Trf) (n : Int) (nt : Nt) (a z w most : Int) (hs : nt.lines.length <= 14) (hcb : (zuV t && inB w 0 100 && inB n 1 3) = true) (hnet : zuA nt = false) : ACall Tryz.prog G 10 [.agg (ztk t), ei n, .agg (eNt nt), ei a, ei z, ei w, ei most] (.v (.bool true)) := by
 have hc : zuV t = true /\ inB w 0 100 = true /\ inB n 1 3 = true := by simp only [Bool.and_eq_true] at hcb; exact ⟨hcb.1.1, hcb.1.2, hcb.2⟩
 refine zS Tryz.func10 rfl (by kernel_rfl) rfl ?_
 refine zl (zh (zg rfl rfl (jf rfl (zY rfl)) (zg rfl rfl (jf rfl (zY rfl)) (zg rfl rfl (zn rfl rfl) (zo (zf (zl (zl (zh (zg rfl rfl (zu rfl rfl zuy) (zg rfl rfl (zA rfl rfl rfl zuP) ?_)))))))))))
 refine zg rfl rfl (qh rfl rfl rfl Tryz.underlying71) (zg rfl rfl (qR rfl rfl rfl) (zo (zf (zx rfl (fun h0 => ?_) (fun h0 => ?_)))))
 ·
  exfalso; simp at h0; omega
 ·
  refine zC (zf (zl (zh (zg rfl rfl (zZ rfl rfl zu1 (by exact zLb rfl)) (zg rfl rfl (zi rfl rfl) (zg rfl rfl (zi rfl rfl) (zg rfl rfl (zy (av := [_, _, _]) rfl ⟨rfl, rfl, rfl, trivial⟩ (zwB t w n hc.1 hc.2.1 hc.2.2)) (zg rfl rfl (zq rfl rfl) (zg rfl rfl (zN rfl rfl rfl) (zg rfl rfl (zN rfl rfl rfl) (zg rfl rfl (zn rfl rfl) ?_)))))))))))
  refine zg rfl rfl (zn rfl rfl) (zo (zf (zl (zh (zg rfl rfl (zZ rfl rfl qf (by exact zLb rfl)) (zg rfl rfl (zi rfl rfl) (zg rfl rfl (zi rfl rfl) (zg rfl rfl (zi rfl rfl) (zg rfl rfl (zi rfl rfl) (zg rfl rfl (zy (av := [_, _, _, _, _]) rfl ⟨rfl, rfl, rfl, rfl, rfl, trivial⟩ (zxK nt a z w most (by omega) hnet)) (zg rfl rfl (zq rfl rfl) ?_)))))))))))
  refine zg rfl rfl (zN rfl rfl rfl) (zg rfl rfl (zN rfl rfl rfl) (zg rfl rfl (zN rfl rfl rfl) (zg rfl rfl (zW rfl rfl) (zg rfl rfl (zn rfl rfl) (zg rfl rfl (zn rfl rfl) (zo (zf (zl (zl (zh (zg rfl rfl (zZ rfl rfl zu1 (by exact zLb rfl)) ?_)))))))))))
  refine zg rfl rfl (zy (av := [_]) rfl ⟨rfl, trivial⟩ (f52 t)) (zg rfl rfl (je rfl rfl) (zg rfl rfl (zi rfl rfl) (zk rfl rfl rfl (fun hg => zi rfl rfl) (zk rfl rfl rfl (fun hg => zy (av := [_]) rfl ⟨((if_pos hg)), trivial⟩ (f53 _)) (zk rfl rfl rfl (fun hg => je rfl (if_pos hg)) (zg rfl rfl (qU rfl rfl rfl rfl) (zg rfl rfl (zi rfl rfl) (zk rfl rfl rfl (fun hg => zi rfl rfl) (zk rfl rfl rfl (fun hg => qi rfl (if_pos hg) rfl) (zg rfl rfl (qU rfl rfl rfl rfl) (zg rfl rfl (zi rfl rfl) ?_)))))))))))
  refine zk rfl rfl rfl (fun hg => zi rfl rfl) (zk rfl rfl rfl (fun hg => qR rfl (if_pos hg) rfl) (zg rfl rfl (qU rfl rfl rfl rfl) (zo (zf (zx rfl (fun h1 => ?_) (fun h1 => ?_))))))
  ·
   exfalso; rw [zuY, hcb] at h1; cases h1
  ·
   refine zl (zh (zg rfl rfl (zi rfl rfl) (zg rfl rfl (vg rfl rfl rfl) (zg rfl rfl (zi rfl rfl) (zk rfl rfl rfl (fun hg => zi rfl rfl) (zk rfl rfl rfl (fun hg => zZ rfl rfl zu1 (by exact zLb rfl)) (zk rfl rfl rfl (fun hg => zi rfl rfl) (zk rfl rfl rfl (fun hg => zi rfl rfl) (zk rfl rfl rfl (fun hg => zy (av := [_, _, _]) rfl ⟨(rfl), (rfl), (rfl), trivial⟩ (f54 t w n hc.1 hc.2.1 hc.2.2)) (zk rfl rfl rfl (fun hg => vg rfl (rfl) (rfl)) (zg rfl rfl (qU rfl rfl rfl rfl) ?_)))))))))))
   refine zo (zf (zx rfl (fun h3 => ?_) (fun h3 => ?_)))
   ·
    exfalso; simp at h3
   ·
    refine zC (zf (zl (zl (zh (zg rfl rfl (zZ rfl rfl qf (by exact zLb rfl)) (zg rfl rfl (zy (av := [_]) rfl ⟨rfl, trivial⟩ (zvr nt (by omega) (b := false) hnet)) (zg rfl rfl (je rfl rfl) (zg rfl rfl (zi rfl rfl) (zk rfl rfl rfl (fun hg => zZ rfl rfl qf (by exact zLb rfl)) (zk rfl rfl rfl (fun hg => zi rfl rfl) ?_))))))))))
    refine zk (x := .pub (.tup [])) rfl rfl rfl (fun hg => absurd hg (by decide)) ?_
    refine zk (x := .pub (.tup [])) rfl rfl rfl (fun hg => absurd hg (by decide)) ?_
    refine zg rfl rfl (zU rfl rfl (fun _ => rfl) (fun h => absurd h (by decide))) ?_
    refine zg rfl rfl (zi rfl rfl) (zk rfl rfl rfl (fun hg => zZ rfl rfl qf (by exact zLb rfl)) (zk rfl rfl rfl (fun hg => zi rfl rfl) ?_))
    refine zk (x := .pub (.tup [])) rfl rfl rfl (fun hg => absurd hg (by decide)) ?_
    refine zk (x := .pub (.tup [])) rfl rfl rfl (fun hg => absurd hg (by decide)) ?_
    refine zg rfl rfl (zU rfl rfl (fun _ => rfl) (fun h => absurd h (by decide))) ?_
    refine zg rfl rfl (zi rfl rfl) (zk rfl rfl rfl (fun hg => zi rfl rfl) ?_)
    refine zk (x := .pub (.tup [])) rfl rfl rfl (fun hg => absurd hg (by decide)) ?_
    refine zk (x := .pub (.tup [])) rfl rfl rfl (fun hg => absurd hg (by decide)) ?_
    refine zg rfl rfl (zU rfl rfl (fun _ => rfl) (fun h => absurd h (by decide))) ?_
    refine zg rfl rfl (zi rfl rfl) (zk rfl rfl rfl (fun hg => zi rfl rfl) ?_)
    refine zk (x := .pub (.tup [])) rfl rfl rfl (fun hg => absurd hg (by decide)) ?_
    refine zk (x := .pub (.tup [])) rfl rfl rfl (fun hg => absurd hg (by decide)) ?_
    refine zg rfl rfl (zU rfl rfl (fun _ => rfl) (fun h => absurd h (by decide))) ?_
    refine zo (zf (zx rfl (fun h4 => ?_) (fun h4 => ?_)))
    ·
     refine zl (zh (zg rfl rfl (zi rfl rfl) (zg rfl rfl (qJ rfl rfl rfl) (zg rfl rfl (zi rfl rfl) (zk rfl rfl rfl (fun hg => zq rfl rfl) (zk rfl rfl rfl (fun hg => qh rfl rfl (rfl) Tryz.underlying23) (zk rfl rfl rfl (fun hg => qJ rfl (rfl) rfl) (zg rfl rfl (qI rfl rfl rfl rfl) (zg rfl rfl (zi rfl rfl) (zk rfl rfl rfl (fun hg => zi rfl rfl) (zk rfl rfl rfl (fun hg => qJ rfl (rfl) rfl) ?_)))))))))))
     refine zg rfl rfl (qI rfl rfl rfl rfl) (zg rfl rfl (zi rfl rfl) (zk rfl rfl rfl (fun hg => zy (av := []) rfl trivial hk) (zg rfl rfl (qI rfl rfl rfl rfl) (zg rfl rfl (zn rfl rfl) (zo (zf (zP (zQ ?_))))))))
     exact ⟨.inr rfl, AVle.of (by simp [zO])⟩
    ·
     exfalso; simp at h4
theorem zxA (hk : KN G) (t : Trf) (n : Int) (nt : Nt) (a z w most : Int) (hs : nt.lines.length <= 14) (hcb : (zuV t && inB w 0 100 && inB n 1 3) = true) (hnet : zuA nt = true) (hb : zuE nt a z w most = false) : ACall Tryz.prog G 10 [.agg (ztk t), ei n, .agg (eNt nt), ei a, ei z, ei w, ei most] (.v (.bool true)) := by
 have hc : zuV t = true /\ inB w 0 100 = true /\ inB n 1 3 = true := by simp only [Bool.and_eq_true] at hcb; exact ⟨hcb.1.1, hcb.1.2, hcb.2⟩
 have h6 := zuH hnet
 have ho : 1 <= nt.offices /\ nt.offices <= 6 := ⟨h6.1, h6.2.1⟩
 refine zS Tryz.func10 rfl (by kernel_rfl) rfl ?_
 refine zl (zh (zg rfl rfl (jf rfl (zY rfl)) (zg rfl rfl (jf rfl (zY rfl)) (zg rfl rfl (zn rfl rfl) (zo (zf (zl (zl (zh (zg rfl rfl (zu rfl rfl zuy) (zg rfl rfl (zA rfl rfl rfl zuP) ?_)))))))))))
 refine zg rfl rfl (qh rfl rfl rfl Tryz.underlying71) (zg rfl rfl (qR rfl rfl rfl) (zo (zf (zx rfl (fun h0 => ?_) (fun h0 => ?_)))))
 ·
  exfalso; simp at h0; omega
 ·
  refine zC (zf (zl (zh (zg rfl rfl (zZ rfl rfl zu1 (by exact zLb rfl)) (zg rfl rfl (zi rfl rfl) (zg rfl rfl (zi rfl rfl) (zg rfl rfl (zy (av := [_, _, _]) rfl ⟨rfl, rfl, rfl, trivial⟩ (zwB t w n hc.1 hc.2.1 hc.2.2)) (zg rfl rfl (zq rfl rfl) (zg rfl rfl (zN rfl rfl rfl) (zg rfl rfl (zN rfl rfl rfl) (zg rfl rfl (zn rfl rfl) ?_)))))))))))
  refine zg rfl rfl (zn rfl rfl) (zo (zf (zl (zh (zg rfl rfl (zZ rfl rfl qf (by exact zLb rfl)) (zg rfl rfl (zi rfl rfl) (zg rfl rfl (zi rfl rfl) (zg rfl rfl (zi rfl rfl) (zg rfl rfl (zi rfl rfl) (zg rfl rfl (zy (av := [_, _, _, _, _]) rfl ⟨rfl, rfl, rfl, rfl, rfl, trivial⟩ (zxO nt a z w most (by omega) hnet hb)) (zg rfl rfl (zq rfl rfl) ?_)))))))))))
  refine zg rfl rfl (zN rfl rfl rfl) (zg rfl rfl (zN rfl rfl rfl) (zg rfl rfl (zN rfl rfl rfl) (zg rfl rfl (zW rfl rfl) (zg rfl rfl (zn rfl rfl) (zg rfl rfl (zn rfl rfl) (zo (zf (zl (zl (zh (zg rfl rfl (zZ rfl rfl zu1 (by exact zLb rfl)) ?_)))))))))))
  refine zg rfl rfl (zy (av := [_]) rfl ⟨rfl, trivial⟩ (f52 t)) (zg rfl rfl (je rfl rfl) (zg rfl rfl (zi rfl rfl) (zk rfl rfl rfl (fun hg => zi rfl rfl) (zk rfl rfl rfl (fun hg => zy (av := [_]) rfl ⟨((if_pos hg)), trivial⟩ (f53 _)) (zk rfl rfl rfl (fun hg => je rfl (if_pos hg)) (zg rfl rfl (qU rfl rfl rfl rfl) (zg rfl rfl (zi rfl rfl) (zk rfl rfl rfl (fun hg => zi rfl rfl) (zk rfl rfl rfl (fun hg => qi rfl (if_pos hg) rfl) (zg rfl rfl (qU rfl rfl rfl rfl) (zg rfl rfl (zi rfl rfl) ?_)))))))))))
  refine zk rfl rfl rfl (fun hg => zi rfl rfl) (zk rfl rfl rfl (fun hg => qR rfl (if_pos hg) rfl) (zg rfl rfl (qU rfl rfl rfl rfl) (zo (zf (zx rfl (fun h1 => ?_) (fun h1 => ?_))))))
  ·
   exfalso; rw [zuY, hcb] at h1; cases h1
  ·
   refine zl (zh (zg rfl rfl (zi rfl rfl) (zg rfl rfl (vg rfl rfl rfl) (zg rfl rfl (zi rfl rfl) (zk rfl rfl rfl (fun hg => zi rfl rfl) (zk rfl rfl rfl (fun hg => zZ rfl rfl zu1 (by exact zLb rfl)) (zk rfl rfl rfl (fun hg => zi rfl rfl) (zk rfl rfl rfl (fun hg => zi rfl rfl) (zk rfl rfl rfl (fun hg => zy (av := [_, _, _]) rfl ⟨(rfl), (rfl), (rfl), trivial⟩ (f54 t w n hc.1 hc.2.1 hc.2.2)) (zk rfl rfl rfl (fun hg => vg rfl (rfl) (rfl)) (zg rfl rfl (qU rfl rfl rfl rfl) ?_)))))))))))
   refine zo (zf (zx rfl (fun h3 => ?_) (fun h3 => ?_)))
   ·
    exfalso; simp at h3
   ·
    refine zC (zf (zl (zl (zh (zg rfl rfl (zZ rfl rfl qf (by exact zLb rfl)) (zg rfl rfl (zy (av := [_]) rfl ⟨rfl, trivial⟩ (zvr nt (by omega) (b := true) hnet)) (zg rfl rfl (je rfl rfl) (zg rfl rfl (zi rfl rfl) (zk rfl rfl rfl (fun hg => zZ rfl rfl qf (by exact zLb rfl)) (zk rfl rfl rfl (fun hg => zi rfl rfl) (zk rfl rfl rfl (fun hg => zy (av := [_, _]) rfl ⟨(rfl), (rfl), trivial⟩ (f56 nt _ ho)) ?_)))))))))))
    refine zk rfl rfl rfl (fun hg => je rfl (rfl)) (zg rfl rfl (qU rfl rfl rfl rfl) (zg rfl rfl (zi rfl rfl) (zk rfl rfl rfl (fun hg => zZ rfl rfl qf (by exact zLb rfl)) (zk rfl rfl rfl (fun hg => zi rfl rfl) (zk rfl rfl rfl (fun hg => zy (av := [_, _]) rfl ⟨((if_pos hg)), ((if_pos hg)), trivial⟩ (f56 nt _ ho)) (zk rfl rfl rfl (fun hg => je rfl (if_pos hg)) (zg rfl rfl (qU rfl rfl rfl rfl) (zg rfl rfl (zi rfl rfl) (zk rfl rfl rfl (fun hg => zi rfl rfl) (zk rfl rfl rfl (fun hg => zy (av := [_]) rfl ⟨((if_pos hg)), trivial⟩ (f53 _)) (zk rfl rfl rfl (fun hg => je rfl (if_pos hg)) ?_)))))))))))
    refine zg rfl rfl (qU rfl rfl rfl rfl) (zg rfl rfl (zi rfl rfl) (zk rfl rfl rfl (fun hg => zi rfl rfl) (zk rfl rfl rfl (fun hg => zy (av := [_]) rfl ⟨((if_pos hg)), trivial⟩ (f53 _)) (zk rfl rfl rfl (fun hg => je rfl (if_pos hg)) (zg rfl rfl (qU rfl rfl rfl rfl) (zo (zf (zx rfl (fun h4 => ?_) (fun h4 => ?_)))))))))
    ·
     refine zl (zh (zg rfl rfl (zi rfl rfl) (zg rfl rfl (qJ rfl rfl rfl) (zg rfl rfl (zi rfl rfl) (zk rfl rfl rfl (fun hg => zq rfl rfl) (zk rfl rfl rfl (fun hg => qh rfl rfl (rfl) Tryz.underlying23) (zk rfl rfl rfl (fun hg => qJ rfl (rfl) rfl) (zg rfl rfl (qI rfl rfl rfl rfl) (zg rfl rfl (zi rfl rfl) (zk rfl rfl rfl (fun hg => zi rfl rfl) (zk rfl rfl rfl (fun hg => qJ rfl (rfl) rfl) ?_)))))))))))
     refine zg rfl rfl (qI rfl rfl rfl rfl) (zg rfl rfl (zi rfl rfl) (zk rfl rfl rfl (fun hg => zy (av := []) rfl trivial hk) (zg rfl rfl (qI rfl rfl rfl rfl) (zg rfl rfl (zn rfl rfl) (zo (zf (zP (zQ ?_))))))))
     exact ⟨.inr rfl, AVle.of (by simp [zO])⟩
    ·
     exfalso; rw [zu7] at h4; unfold zuE at hb; rw [hnet] at hb; rw [hb] at h4; cases h4
theorem zwR (hk : KN G) (t : Trf) (n : Int) (nt : Nt) (a z w most : Int) (hs : nt.lines.length <= 14) (hcb : (zuV t && inB w 0 100 && inB n 1 3) = true) (hnet : zuA nt = true) (hb : zuE nt a z w most = true) (hr : rtB nt a z w most = none) : ACall Tryz.prog G 10 [.agg (ztk t), ei n, .agg (eNt nt), ei a, ei z, ei w, ei most] (.v (.bool true)) := by
 have hc : zuV t = true /\ inB w 0 100 = true /\ inB n 1 3 = true := by simp only [Bool.and_eq_true] at hcb; exact ⟨hcb.1.1, hcb.1.2, hcb.2⟩
 have h6 := zuH hnet
 have ho : 1 <= nt.offices /\ nt.offices <= 6 := ⟨h6.1, h6.2.1⟩
 have hq := zuQ hb
 refine zS Tryz.func10 rfl (by kernel_rfl) rfl ?_
 refine zl (zh (zg rfl rfl (jf rfl (zY rfl)) (zg rfl rfl (jf rfl (zY rfl)) (zg rfl rfl (zn rfl rfl) (zo (zf (zl (zl (zh (zg rfl rfl (zu rfl rfl zuy) (zg rfl rfl (zA rfl rfl rfl zuP) ?_)))))))))))
 refine zg rfl rfl (qh rfl rfl rfl Tryz.underlying71) (zg rfl rfl (qR rfl rfl rfl) (zo (zf (zx rfl (fun h0 => ?_) (fun h0 => ?_)))))
 ·
  exfalso; simp at h0; omega
 ·
  refine zC (zf (zl (zh (zg rfl rfl (zZ rfl rfl zu1 (by exact zLb rfl)) (zg rfl rfl (zi rfl rfl) (zg rfl rfl (zi rfl rfl) (zg rfl rfl (zy (av := [_, _, _]) rfl ⟨rfl, rfl, rfl, trivial⟩ (zwB t w n hc.1 hc.2.1 hc.2.2)) (zg rfl rfl (zq rfl rfl) (zg rfl rfl (zN rfl rfl rfl) (zg rfl rfl (zN rfl rfl rfl) (zg rfl rfl (zn rfl rfl) ?_)))))))))))
  refine zg rfl rfl (zn rfl rfl) (zo (zf (zl (zh (zg rfl rfl (zZ rfl rfl qf (by exact zLb rfl)) (zg rfl rfl (zi rfl rfl) (zg rfl rfl (zi rfl rfl) (zg rfl rfl (zi rfl rfl) (zg rfl rfl (zi rfl rfl) (zg rfl rfl (zy (av := [_, _, _, _, _]) rfl ⟨rfl, rfl, rfl, rfl, rfl, trivial⟩ (zwm nt a z w most (by omega) hb hr)) (zg rfl rfl (zq rfl rfl) ?_)))))))))))
  refine zg rfl rfl (zN rfl rfl rfl) (zg rfl rfl (zN rfl rfl rfl) (zg rfl rfl (zN rfl rfl rfl) (zg rfl rfl (zW rfl rfl) (zg rfl rfl (zn rfl rfl) (zg rfl rfl (zn rfl rfl) (zo (zf (zl (zl (zh (zg rfl rfl (zZ rfl rfl zu1 (by exact zLb rfl)) ?_)))))))))))
  refine zg rfl rfl (zy (av := [_]) rfl ⟨rfl, trivial⟩ (f52 t)) (zg rfl rfl (je rfl rfl) (zg rfl rfl (zi rfl rfl) (zk rfl rfl rfl (fun hg => zi rfl rfl) (zk rfl rfl rfl (fun hg => zy (av := [_]) rfl ⟨((if_pos hg)), trivial⟩ (f53 _)) (zk rfl rfl rfl (fun hg => je rfl (if_pos hg)) (zg rfl rfl (qU rfl rfl rfl rfl) (zg rfl rfl (zi rfl rfl) (zk rfl rfl rfl (fun hg => zi rfl rfl) (zk rfl rfl rfl (fun hg => qi rfl (if_pos hg) rfl) (zg rfl rfl (qU rfl rfl rfl rfl) (zg rfl rfl (zi rfl rfl) ?_)))))))))))
  refine zk rfl rfl rfl (fun hg => zi rfl rfl) (zk rfl rfl rfl (fun hg => qR rfl (if_pos hg) rfl) (zg rfl rfl (qU rfl rfl rfl rfl) (zo (zf (zx rfl (fun h1 => ?_) (fun h1 => ?_))))))
  ·
   exfalso; rw [zuY, hcb] at h1; cases h1
  ·
   refine zl (zh (zg rfl rfl (zi rfl rfl) (zg rfl rfl (vg rfl rfl rfl) (zg rfl rfl (zi rfl rfl) (zk rfl rfl rfl (fun hg => zi rfl rfl) (zk rfl rfl rfl (fun hg => zZ rfl rfl zu1 (by exact zLb rfl)) (zk rfl rfl rfl (fun hg => zi rfl rfl) (zk rfl rfl rfl (fun hg => zi rfl rfl) (zk rfl rfl rfl (fun hg => zy (av := [_, _, _]) rfl ⟨(rfl), (rfl), (rfl), trivial⟩ (f54 t w n hc.1 hc.2.1 hc.2.2)) (zk rfl rfl rfl (fun hg => vg rfl (rfl) (rfl)) (zg rfl rfl (qU rfl rfl rfl rfl) ?_)))))))))))
   refine zo (zf (zx rfl (fun h3 => ?_) (fun h3 => ?_)))
   ·
    exfalso; simp at h3
   ·
    refine zC (zf (zl (zl (zh (zg rfl rfl (zZ rfl rfl qf (by exact zLb rfl)) (zg rfl rfl (zy (av := [_]) rfl ⟨rfl, trivial⟩ (zvr nt (by omega) (b := true) hnet)) (zg rfl rfl (je rfl rfl) (zg rfl rfl (zi rfl rfl) (zk rfl rfl rfl (fun hg => zZ rfl rfl qf (by exact zLb rfl)) (zk rfl rfl rfl (fun hg => zi rfl rfl) (zk rfl rfl rfl (fun hg => zy (av := [_, _]) rfl ⟨(rfl), (rfl), trivial⟩ (f56 nt _ ho)) ?_)))))))))))
    refine zk rfl rfl rfl (fun hg => je rfl (rfl)) (zg rfl rfl (qU rfl rfl rfl rfl) (zg rfl rfl (zi rfl rfl) (zk rfl rfl rfl (fun hg => zZ rfl rfl qf (by exact zLb rfl)) (zk rfl rfl rfl (fun hg => zi rfl rfl) (zk rfl rfl rfl (fun hg => zy (av := [_, _]) rfl ⟨((if_pos hg)), ((if_pos hg)), trivial⟩ (f56 nt _ ho)) (zk rfl rfl rfl (fun hg => je rfl (if_pos hg)) (zg rfl rfl (qU rfl rfl rfl rfl) (zg rfl rfl (zi rfl rfl) (zk rfl rfl rfl (fun hg => zi rfl rfl) (zk rfl rfl rfl (fun hg => zy (av := [_]) rfl ⟨((if_pos hg)), trivial⟩ (f53 _)) (zk rfl rfl rfl (fun hg => je rfl (if_pos hg)) ?_)))))))))))
    refine zg rfl rfl (qU rfl rfl rfl rfl) (zg rfl rfl (zi rfl rfl) (zk rfl rfl rfl (fun hg => zi rfl rfl) (zk rfl rfl rfl (fun hg => zy (av := [_]) rfl ⟨((if_pos hg)), trivial⟩ (f53 _)) (zk rfl rfl rfl (fun hg => je rfl (if_pos hg)) (zg rfl rfl (qU rfl rfl rfl rfl) (zo (zf (zx rfl (fun h4 => ?_) (fun h4 => ?_)))))))))
    ·
     exfalso; rw [zu7] at h4; unfold zuE at hb; rw [hnet] at hb; rw [hb] at h4; cases h4
    ·
     refine zC (zf (zl (zh (zg rfl rfl (zZ rfl rfl qf (by exact zLb rfl)) (zg rfl rfl (zi rfl rfl) (zg rfl rfl (zi rfl rfl) (zg rfl rfl (zi rfl rfl) (zg rfl rfl (zi rfl rfl) (zg rfl rfl (zy (av := [_, _, _, _, _]) rfl ⟨rfl, rfl, rfl, rfl, rfl, trivial⟩ (zzz nt a z w most hq.1 hq.2.2.2.1 hq.2.1 hr)) (zg rfl rfl (zq rfl rfl) (zg rfl rfl (zN rfl rfl rfl) ?_)))))))))))
     refine zg rfl rfl (zN rfl rfl rfl) (zg rfl rfl (zn rfl rfl) (zg rfl rfl (zn rfl rfl) (zo (zf (zl (zl (zh (zg rfl rfl (zi rfl rfl) (zg rfl rfl (je rfl rfl) (zo (zf (zx rfl (fun h5 => ?_) (fun h5 => ?_)))))))))))))
     ·
      refine zl (zh (zg rfl rfl (zi rfl rfl) (zg rfl rfl (qJ rfl rfl rfl) (zg rfl rfl (zi rfl rfl) (zk rfl rfl rfl (fun hg => zq rfl rfl) (zk rfl rfl rfl (fun hg => qh rfl rfl (rfl) Tryz.underlying23) (zk rfl rfl rfl (fun hg => qJ rfl (rfl) rfl) (zg rfl rfl (qI rfl rfl rfl rfl) (zg rfl rfl (zi rfl rfl) (zk rfl rfl rfl (fun hg => zi rfl rfl) (zk rfl rfl rfl (fun hg => qJ rfl (rfl) rfl) ?_)))))))))))
      refine zg rfl rfl (qI rfl rfl rfl rfl) (zg rfl rfl (zi rfl rfl) (zk rfl rfl rfl (fun hg => zy (av := []) rfl trivial hk) (zg rfl rfl (qI rfl rfl rfl rfl) (zg rfl rfl (zn rfl rfl) (zo (zf (zP (zQ ?_))))))))
      exact ⟨.inr rfl, AVle.of (by simp [zO])⟩
     ·
      exfalso; simp at h5
theorem zw7 (hk : KN G) (t : Trf) (n : Int) (nt : Nt) (a z w most : Int) (hs : nt.lines.length <= 14) (hcb : (zuV t && inB w 0 100 && inB n 1 3) = true) (hnet : zuA nt = true) (hb : zuE nt a z w most = true) {r : List Int} (hr : rtB nt a z w most = some r) : ACall Tryz.prog G 10 [.agg (ztk t), ei n, .agg (eNt nt), ei a, ei z, ei w, ei most] (.v (.bool true)) := by
 have hc : zuV t = true /\ inB w 0 100 = true /\ inB n 1 3 = true := by simp only [Bool.and_eq_true] at hcb; exact ⟨hcb.1.1, hcb.1.2, hcb.2⟩
 have h6 := zuH hnet
 have ho : 1 <= nt.offices /\ nt.offices <= 6 := ⟨h6.1, h6.2.1⟩
 have hq := zuQ hb
 have hbd := zv3 hb hr
 refine zS Tryz.func10 rfl (by kernel_rfl) rfl ?_
 refine zl (zh (zg rfl rfl (jf rfl (zY rfl)) (zg rfl rfl (jf rfl (zY rfl)) (zg rfl rfl (zn rfl rfl) (zo (zf (zl (zl (zh (zg rfl rfl (zu rfl rfl zuy) (zg rfl rfl (zA rfl rfl rfl zuP) ?_)))))))))))
 refine zg rfl rfl (qh rfl rfl rfl Tryz.underlying71) (zg rfl rfl (qR rfl rfl rfl) (zo (zf (zx rfl (fun h0 => ?_) (fun h0 => ?_)))))
 ·
  exfalso; simp at h0; omega
 ·
  refine zC (zf (zl (zh (zg rfl rfl (zZ rfl rfl zu1 (by exact zLb rfl)) (zg rfl rfl (zi rfl rfl) (zg rfl rfl (zi rfl rfl) (zg rfl rfl (zy (av := [_, _, _]) rfl ⟨rfl, rfl, rfl, trivial⟩ (zwB t w n hc.1 hc.2.1 hc.2.2)) (zg rfl rfl (zq rfl rfl) (zg rfl rfl (zN rfl rfl rfl) (zg rfl rfl (zN rfl rfl rfl) (zg rfl rfl (zn rfl rfl) ?_)))))))))))
  refine zg rfl rfl (zn rfl rfl) (zo (zf (zl (zh (zg rfl rfl (zZ rfl rfl qf (by exact zLb rfl)) (zg rfl rfl (zi rfl rfl) (zg rfl rfl (zi rfl rfl) (zg rfl rfl (zi rfl rfl) (zg rfl rfl (zi rfl rfl) (zg rfl rfl (zy (av := [_, _, _, _, _]) rfl ⟨rfl, rfl, rfl, rfl, rfl, trivial⟩ (zwo nt a z w most (by omega) hb hr)) (zg rfl rfl (zq rfl rfl) ?_)))))))))))
  refine zg rfl rfl (zN rfl rfl rfl) (zg rfl rfl (zN rfl rfl rfl) (zg rfl rfl (zN rfl rfl rfl) (zg rfl rfl (zW rfl rfl) (zg rfl rfl (zn rfl rfl) (zg rfl rfl (zn rfl rfl) (zo (zf (zl (zl (zh (zg rfl rfl (zZ rfl rfl zu1 (by exact zLb rfl)) ?_)))))))))))
  refine zg rfl rfl (zy (av := [_]) rfl ⟨rfl, trivial⟩ (f52 t)) (zg rfl rfl (je rfl rfl) (zg rfl rfl (zi rfl rfl) (zk rfl rfl rfl (fun hg => zi rfl rfl) (zk rfl rfl rfl (fun hg => zy (av := [_]) rfl ⟨((if_pos hg)), trivial⟩ (f53 _)) (zk rfl rfl rfl (fun hg => je rfl (if_pos hg)) (zg rfl rfl (qU rfl rfl rfl rfl) (zg rfl rfl (zi rfl rfl) (zk rfl rfl rfl (fun hg => zi rfl rfl) (zk rfl rfl rfl (fun hg => qi rfl (if_pos hg) rfl) (zg rfl rfl (qU rfl rfl rfl rfl) (zg rfl rfl (zi rfl rfl) ?_)))))))))))
  refine zk rfl rfl rfl (fun hg => zi rfl rfl) (zk rfl rfl rfl (fun hg => qR rfl (if_pos hg) rfl) (zg rfl rfl (qU rfl rfl rfl rfl) (zo (zf (zx rfl (fun h1 => ?_) (fun h1 => ?_))))))
  ·
   exfalso; rw [zuY, hcb] at h1; cases h1
  ·
   refine zl (zh (zg rfl rfl (zi rfl rfl) (zg rfl rfl (vg rfl rfl rfl) (zg rfl rfl (zi rfl rfl) (zk rfl rfl rfl (fun hg => zi rfl rfl) (zk rfl rfl rfl (fun hg => zZ rfl rfl zu1 (by exact zLb rfl)) (zk rfl rfl rfl (fun hg => zi rfl rfl) (zk rfl rfl rfl (fun hg => zi rfl rfl) (zk rfl rfl rfl (fun hg => zy (av := [_, _, _]) rfl ⟨(rfl), (rfl), (rfl), trivial⟩ (f54 t w n hc.1 hc.2.1 hc.2.2)) (zk rfl rfl rfl (fun hg => vg rfl (rfl) (rfl)) (zg rfl rfl (qU rfl rfl rfl rfl) ?_)))))))))))
   refine zo (zf (zx rfl (fun h3 => ?_) (fun h3 => ?_)))
   ·
    exfalso; simp at h3
   ·
    refine zC (zf (zl (zl (zh (zg rfl rfl (zZ rfl rfl qf (by exact zLb rfl)) (zg rfl rfl (zy (av := [_]) rfl ⟨rfl, trivial⟩ (zvr nt (by omega) (b := true) hnet)) (zg rfl rfl (je rfl rfl) (zg rfl rfl (zi rfl rfl) (zk rfl rfl rfl (fun hg => zZ rfl rfl qf (by exact zLb rfl)) (zk rfl rfl rfl (fun hg => zi rfl rfl) (zk rfl rfl rfl (fun hg => zy (av := [_, _]) rfl ⟨(rfl), (rfl), trivial⟩ (f56 nt _ ho)) ?_)))))))))))
    refine zk rfl rfl rfl (fun hg => je rfl (rfl)) (zg rfl rfl (qU rfl rfl rfl rfl) (zg rfl rfl (zi rfl rfl) (zk rfl rfl rfl (fun hg => zZ rfl rfl qf (by exact zLb rfl)) (zk rfl rfl rfl (fun hg => zi rfl rfl) (zk rfl rfl rfl (fun hg => zy (av := [_, _]) rfl ⟨((if_pos hg)), ((if_pos hg)), trivial⟩ (f56 nt _ ho)) (zk rfl rfl rfl (fun hg => je rfl (if_pos hg)) (zg rfl rfl (qU rfl rfl rfl rfl) (zg rfl rfl (zi rfl rfl) (zk rfl rfl rfl (fun hg => zi rfl rfl) (zk rfl rfl rfl (fun hg => zy (av := [_]) rfl ⟨((if_pos hg)), trivial⟩ (f53 _)) (zk rfl rfl rfl (fun hg => je rfl (if_pos hg)) ?_)))))))))))
    refine zg rfl rfl (qU rfl rfl rfl rfl) (zg rfl rfl (zi rfl rfl) (zk rfl rfl rfl (fun hg => zi rfl rfl) (zk rfl rfl rfl (fun hg => zy (av := [_]) rfl ⟨((if_pos hg)), trivial⟩ (f53 _)) (zk rfl rfl rfl (fun hg => je rfl (if_pos hg)) (zg rfl rfl (qU rfl rfl rfl rfl) (zo (zf (zx rfl (fun h4 => ?_) (fun h4 => ?_)))))))))
    ·
     exfalso; rw [zu7] at h4; unfold zuE at hb; rw [hnet] at hb; rw [hb] at h4; cases h4
    ·
     refine zC (zf (zl (zh (zg rfl rfl (zZ rfl rfl qf (by exact zLb rfl)) (zg rfl rfl (zi rfl rfl) (zg rfl rfl (zi rfl rfl) (zg rfl rfl (zi rfl rfl) (zg rfl rfl (zi rfl rfl) (zg rfl rfl (zy (av := [_, _, _, _, _]) rfl ⟨rfl, rfl, rfl, rfl, rfl, trivial⟩ (zzt nt a z w most hq.1 hq.2.2.2.1 hq.2.1 hr)) (zg rfl rfl (zq rfl rfl) (zg rfl rfl (zN rfl rfl rfl) ?_)))))))))))
     refine zg rfl rfl (zN rfl rfl rfl) (zg rfl rfl (zW rfl rfl) (zg rfl rfl (zn rfl rfl) (zo (zf (zl (zl (zh (zg rfl rfl (zi rfl rfl) (zg rfl rfl (je rfl rfl) (zo (zf (zx rfl (fun h5 => ?_) (fun h5 => ?_)))))))))))))
     ·
      exfalso; simp at h5
     ·
      refine zC (zf (zl (zh (zg rfl rfl (zi rfl rfl) (zg rfl rfl (qJ rfl rfl rfl) (zg rfl rfl (zi rfl rfl) (zk rfl rfl rfl (fun hg => zq rfl rfl) (zk rfl rfl rfl (fun hg => zq rfl rfl) (zk rfl rfl rfl (fun hg => zy (av := [_, _]) rfl ⟨(rfl), (rfl), trivial⟩ (zr7 r (by omega))) (zg rfl rfl (qI rfl rfl rfl rfl) (zg rfl rfl (zi rfl rfl) ?_)))))))))))
      refine zk rfl rfl rfl (fun hg => zi rfl rfl) (zk rfl rfl rfl (fun hg => zi rfl rfl) (zk rfl rfl rfl (fun hg => zZ rfl rfl qf (by exact zLb rfl)) (zk rfl rfl rfl (fun hg => zq rfl rfl) (zk rfl rfl rfl (fun hg => zy (av := [_, _]) rfl ⟨(rfl), (rfl), trivial⟩ (f58 nt r hnet (by omega) hbd.2.1)) ?_))))
      refine zk rfl rfl rfl (fun hg => zcY rfl (rfl) (rfl) ⟨(by first | omega | (simp at hg; omega)), (by first | omega | (simp at hg; omega))⟩) ?_
      refine zk rfl rfl rfl (fun hg => qJ rfl (rfl) (rfl)) (zg rfl rfl (qI rfl rfl rfl rfl) (zg rfl rfl (zi rfl rfl) (zk rfl rfl rfl (fun hg => zy (av := []) rfl trivial hk) (zg rfl rfl (qI rfl rfl rfl rfl) (zg rfl rfl (zn rfl rfl) (zo (zf (zP ?_))))))))
      exact ⟨.inr rfl, AVle.of (by simp [zO])⟩
theorem f10 (hk : KN G) (t : Trf) (n : Int) (nt : Nt) (a z w most : Int) : ACall Tryz.prog G 10 [.agg (ztk t), ei n, .agg (eNt nt), ei a, ei z, ei w, ei most] (.v (.bool true)) := by
 by_cases hs : 14 < nt.lines.length
 ·
  exact zzg hk t n nt a z w most hs
 ·
  have hs : nt.lines.length <= 14 := by omega
  cases hc : (zuV t && inB w 0 100 && inB n 1 3) <;> cases hnet : zuA nt
  ·
   exact zwS hk t n nt a z w most hs hc hnet
  ·
   cases hb : zuE nt a z w most with
   | false => exact zwP hk t n nt a z w most hs hc hnet hb
   | true =>
    cases hr : rtB nt a z w most with
    | none => exact zwH hk t n nt a z w most hs hc hnet hb hr
    | some r => exact zwz hk t n nt a z w most hs hc hnet hb hr
  ·
   exact zxm hk t n nt a z w most hs hc hnet
  ·
   cases hb : zuE nt a z w most with
   | false => exact zxA hk t n nt a z w most hs hc hnet hb
   | true =>
    cases hr : rtB nt a z w most with
    | none => exact zwR hk t n nt a z w most hs hc hnet hb hr
    | some r => exact zw7 hk t n nt a z w most hs hc hnet hb hr
end Go.Av
end
