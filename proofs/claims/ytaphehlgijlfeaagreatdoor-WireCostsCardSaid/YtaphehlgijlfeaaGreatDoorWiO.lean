
import Derived.Test.YtaphehlgijlfeaaGreatDoorWiN
import Derived.Test.YtaphehlgijlfeaaGreatDoorWiF
import Derived.Test.YtaphehlgijlfeaaGreatDoorWiH
set_option linter.unusedVariables false
set_option linter.unusedSimpArgs false
section
namespace Go.Av
open Go.Proofs
set_option maxRecDepth 100000
set_option maxHeartbeats 1000000
variable {G : Glob}
end Go.Av
end
section
namespace Go.Av
open Go.Proofs
set_option maxRecDepth 100000
set_option maxHeartbeats 1000000
variable {G : Glob}
theorem zea : zau Tryz.prog 30 1 = true := by kernel_rfl
theorem zvu : fldIs Tryz.prog 70 0 0 = true := by kernel_rfl
theorem zvy : fldIs Tryz.prog 70 2 2 = true := by kernel_rfl
theorem zvz : fldIs Tryz.prog 70 1 1 = true := by kernel_rfl
def zzB (t : Trf) (w n : Int) : Int := (t.opn + t.more * max 0 (w - t.free)) + (n - 1) * (((t.opn + t.more * max 0 (w - t.free)) + 1) / 2)
def zuV (t : Trf) : Bool := (inB t.opn 0 10000 && inB t.more 0 10000) && inB t.free 0 100
theorem ints_at {L : List (List Int)} {k : Nat} (h : k < L.length) : (L.map fun m => [zO m])[k]? = some [zO L[k]] := by simp [h]
theorem kz {L : List (List Int)} : ∀ q ∈ L.map (fun m => [zO m]), q.length = 1 := by simp
theorem f53 (n : Int) : ACall Tryz.prog G 53 [.v (.int .i64 n)] (.v (.bool (inB n 0 100))) := by
 refine zS Tryz.func53 rfl (by kernel_rfl) rfl ?_
 refine zl (zh (zg rfl rfl (zn rfl rfl) (zo (zf (zl (zh (zg rfl rfl (zi rfl rfl) (zg rfl rfl (zy (av := [_, _, _]) rfl ⟨rfl, rfl, rfl, trivial⟩ (f93 _ _ _)) (zg rfl rfl (zn rfl rfl) (zo (zf ?_)))))))))))
 refine zP ?_
 exact ⟨.inr rfl, AVle.refl _⟩
theorem f52 (t : Trf) : ACall Tryz.prog G 52 [.agg (ztk t)] (.v (.bool (zuV t))) := by
 refine zS Tryz.func52 rfl (by kernel_rfl) rfl ?_
 refine zl (zh (zg rfl rfl (jf rfl (zY rfl)) (zg rfl rfl (zn rfl rfl) (zo (zf (zl (zh (zg rfl rfl (zu rfl rfl zvu) (zg rfl rfl (zA rfl rfl rfl ty3) (zg rfl rfl (zy (av := [_, _, _]) rfl ⟨rfl, rfl, rfl, trivial⟩ (f93 _ _ _)) (zg rfl rfl (zi rfl rfl) ?_)))))))))))
 refine zk rfl rfl rfl (fun hg => zu rfl rfl zvy) (zk rfl rfl rfl (fun hg => zA rfl (if_pos hg) rfl ty3) (zk rfl rfl rfl (fun hg => zy (av := [_, _, _]) rfl ⟨((if_pos hg)), rfl, rfl, trivial⟩ (f93 _ _ _)) (zg rfl rfl (qI rfl rfl rfl rfl) (zg rfl rfl (zi rfl rfl) (zk rfl rfl rfl (fun hg => zu rfl rfl zvz) (zk rfl rfl rfl (fun hg => zA rfl (if_pos hg) rfl ty3) (zk rfl rfl rfl (fun hg => zy (av := [_, _, _]) rfl ⟨((if_pos hg)), rfl, rfl, trivial⟩ (f93 _ _ _)) (zg rfl rfl (qI rfl rfl rfl rfl) (zg rfl rfl (zn rfl rfl) (zo (zf ?_)))))))))))
 refine zP ?_
 exact ⟨.inr rfl, AVle.of (by simp [zuV])⟩
theorem zvP (t : Trf) (w n : Int) (hb : (zuV t && inB w 0 100 && inB n 1 3) = false) : ACall Tryz.prog G 50 [.agg (ztk t), ei w, ei n] (.tup [ei 0, ei 2]) := by
 refine zS Tryz.func50 rfl (by kernel_rfl) rfl ?_
 refine zl (zh (zg rfl rfl (jf rfl (zY rfl)) (zg rfl rfl (zn rfl rfl) (zg rfl rfl (zn rfl rfl) (zo (zf (zl (zl (zh (zg rfl rfl (zu rfl rfl zvu) (zg rfl rfl (zA rfl rfl rfl ty3) ?_)))))))))))
 refine zg rfl rfl (zy (av := [_, _, _]) rfl ⟨rfl, rfl, rfl, trivial⟩ (f107 _ _ _)) (zg rfl rfl (je rfl rfl) (zg rfl rfl (zi rfl rfl) (zk rfl rfl rfl (fun hg => zu rfl rfl zvy) (zk rfl rfl rfl (fun hg => zA rfl (if_pos hg) rfl ty3) (zk rfl rfl rfl (fun hg => zy (av := [_, _, _]) rfl ⟨((if_pos hg)), rfl, rfl, trivial⟩ (f107 _ _ _)) (zk rfl rfl rfl (fun hg => je rfl (if_pos hg)) (zg rfl rfl (qU rfl rfl rfl rfl) (zg rfl rfl (zi rfl rfl) (zk rfl rfl rfl (fun hg => zu rfl rfl zvz) (zk rfl rfl rfl (fun hg => zA rfl (if_pos hg) rfl ty3) (zk rfl rfl rfl (fun hg => zy (av := [_, _, _]) rfl ⟨((if_pos hg)), rfl, rfl, trivial⟩ (f107 _ _ _)) ?_)))))))))))
 refine zk rfl rfl rfl (fun hg => je rfl (if_pos hg)) (zg rfl rfl (qU rfl rfl rfl rfl) (zg rfl rfl (zi rfl rfl) (zk rfl rfl rfl (fun hg => zi rfl rfl) (zk rfl rfl rfl (fun hg => zy (av := [_, _, _]) rfl ⟨((if_pos hg)), rfl, rfl, trivial⟩ (f107 _ _ _)) (zk rfl rfl rfl (fun hg => je rfl (if_pos hg)) (zg rfl rfl (qU rfl rfl rfl rfl) (zg rfl rfl (zi rfl rfl) (zk rfl rfl rfl (fun hg => zi rfl rfl) (zk rfl rfl rfl (fun hg => zy (av := [_, _, _]) rfl ⟨((if_pos hg)), rfl, rfl, trivial⟩ (f107 _ _ _)) (zk rfl rfl rfl (fun hg => je rfl (if_pos hg)) (zg rfl rfl (qU rfl rfl rfl rfl) ?_)))))))))))
 refine zo (zf (zx rfl (fun h0 => ?_) (fun h0 => ?_)))
 ·
  refine zl (zh (zg rfl rfl (zn rfl rfl) (zg rfl rfl (zn rfl rfl) (zo (zf (zP (zQ ?_)))))))
  exact ⟨.inr rfl, ⟨_, rfl, ⟨_, _, rfl, AVle.refl _, ⟨_, _, rfl, AVle.refl _, rfl⟩⟩⟩⟩
 ·
  exfalso; simp [zuV] at hb h0; simp_all
theorem zwB (t : Trf) (w n : Int) (h1 : zuV t = true) (h2 : inB w 0 100 = true) (h3 : inB n 1 3 = true) : ACall Tryz.prog G 50 [.agg (ztk t), ei w, ei n] (.tup [ei (zzB t w n), ei 0]) := by
 have q1 := h1
 simp only [zuV, Bool.and_eq_true, zdh] at q1
 have q2 := zdh.1 h2
 have q3 := zdh.1 h3
 obtain ⟨M, hM⟩ : ∃ M, M = max 0 (w - t.free) := ⟨_, rfl⟩
 have hM1 : 0 <= M /\ M <= 100 := by omega
 have hM2 : 0 <= t.more * M /\ t.more * M <= 1000000 := ⟨Int.mul_nonneg (by omega) (by omega), Int.le_trans (Int.mul_le_mul (show t.more <= 10000 by omega) (show M <= 100 by omega) (by omega) (by omega)) (by omega)⟩
 have hO : 0 <= t.opn + t.more * M /\ t.opn + t.more * M <= 1010000 := by omega
 have hH : 0 <= (t.opn + t.more * M + 1) / 2 /\ (t.opn + t.more * M + 1) / 2 <= 1010000 := by omega
 have hP : 0 <= (n - 1) * ((t.opn + t.more * M + 1) / 2) /\ (n - 1) * ((t.opn + t.more * M + 1) / 2) <= 2020000 := ⟨Int.mul_nonneg (by omega) (by omega), Int.le_trans (Int.mul_le_mul (show n - 1 <= 2 by omega) hH.2 (by omega) (by omega)) (by omega)⟩
 rw [hM] at hM2 hO hH hP
 refine zS Tryz.func50 rfl (by kernel_rfl) rfl ?_
 refine zl (zh (zg rfl rfl (jf rfl (zY rfl)) (zg rfl rfl (zn rfl rfl) (zg rfl rfl (zn rfl rfl) (zo (zf (zl (zl (zh (zg rfl rfl (zu rfl rfl zvu) (zg rfl rfl (zA rfl rfl rfl ty3) ?_)))))))))))
 refine zg rfl rfl (zy (av := [_, _, _]) rfl ⟨rfl, rfl, rfl, trivial⟩ (f107 _ _ _)) (zg rfl rfl (je rfl rfl) (zg rfl rfl (zi rfl rfl) (zk rfl rfl rfl (fun hg => zu rfl rfl zvy) (zk rfl rfl rfl (fun hg => zA rfl (if_pos hg) rfl ty3) (zk rfl rfl rfl (fun hg => zy (av := [_, _, _]) rfl ⟨((if_pos hg)), rfl, rfl, trivial⟩ (f107 _ _ _)) (zk rfl rfl rfl (fun hg => je rfl (if_pos hg)) (zg rfl rfl (qU rfl rfl rfl rfl) (zg rfl rfl (zi rfl rfl) (zk rfl rfl rfl (fun hg => zu rfl rfl zvz) (zk rfl rfl rfl (fun hg => zA rfl (if_pos hg) rfl ty3) (zk rfl rfl rfl (fun hg => zy (av := [_, _, _]) rfl ⟨((if_pos hg)), rfl, rfl, trivial⟩ (f107 _ _ _)) ?_)))))))))))
 refine zk rfl rfl rfl (fun hg => je rfl (if_pos hg)) (zg rfl rfl (qU rfl rfl rfl rfl) (zg rfl rfl (zi rfl rfl) (zk rfl rfl rfl (fun hg => zi rfl rfl) (zk rfl rfl rfl (fun hg => zy (av := [_, _, _]) rfl ⟨((if_pos hg)), rfl, rfl, trivial⟩ (f107 _ _ _)) (zk rfl rfl rfl (fun hg => je rfl (if_pos hg)) (zg rfl rfl (qU rfl rfl rfl rfl) (zg rfl rfl (zi rfl rfl) (zk rfl rfl rfl (fun hg => zi rfl rfl) (zk rfl rfl rfl (fun hg => zy (av := [_, _, _]) rfl ⟨((if_pos hg)), rfl, rfl, trivial⟩ (f107 _ _ _)) (zk rfl rfl rfl (fun hg => je rfl (if_pos hg)) (zg rfl rfl (qU rfl rfl rfl rfl) ?_)))))))))))
 refine zo (zf (zx rfl (fun h0 => ?_) (fun h0 => ?_)))
 ·
  exfalso; simp [zuV] at h1; simp [h1, h2, h3] at h0
 ·
  refine zC (zf (zl (zh (zg rfl rfl (zu rfl rfl zvu) (zg rfl rfl (zA rfl rfl rfl ty3) (zg rfl rfl (zu rfl rfl zvy) (zg rfl rfl (zA rfl rfl rfl ty3) (zg rfl rfl (zi rfl rfl) (zg rfl rfl (zu rfl rfl zvz) (zg rfl rfl (zA rfl rfl rfl ty3) (zg rfl rfl (ze5 rfl rfl rfl ⟨(by omega), (by omega)⟩) ?_)))))))))))
  refine zg rfl rfl (zq3 rfl rfl rfl) (zg rfl rfl (zcY rfl rfl rfl ⟨(by omega), (by omega)⟩) (zg rfl rfl (zV rfl rfl rfl ⟨(by omega), (by omega)⟩) (zg rfl rfl (zn rfl rfl) (zo (zf (zl (zh (zg rfl rfl (zi rfl rfl) (zg rfl rfl (zi rfl rfl) (zg rfl rfl (ze5 rfl rfl rfl ⟨(by omega), (by omega)⟩) (zg rfl rfl (zi rfl rfl) ?_)))))))))))
  refine zg rfl rfl (zV rfl rfl rfl ⟨(by omega), (by omega)⟩) (zg rfl rfl (zcj rfl rfl rfl ⟨(by omega), (by omega), (by omega)⟩) (zg rfl rfl (zcY rfl rfl rfl ⟨(by omega), (by omega)⟩) (zg rfl rfl (zV rfl rfl rfl ⟨(by omega), (by omega)⟩) (zg rfl rfl (zn rfl rfl) (zg rfl rfl (zn rfl rfl) (zo (zf (zP ?_))))))))
  exact ⟨.inr rfl, ⟨_, rfl, ⟨_, _, rfl, AVle.refl _, ⟨_, _, rfl, AVle.refl _, rfl⟩⟩⟩⟩
end Go.Av
end
