
import Derived.Test.YtaphehlgijlfeaaGreatDoorWiA
import Derived.Test.YtaphehlgijlfeaaGreatDoorPlatG
set_option linter.unusedVariables false
set_option linter.unusedSimpArgs false
section
namespace Go.Av
open Go.Proofs
set_option maxRecDepth 100000
set_option maxHeartbeats 1000000
variable {G : Glob}
theorem ziu : (Tryz.prog.info? 118).bind (·.zero) = some (.agg #[.int .i64 0, .int .i64 0, .int .i64 0, .int .i64 0, .int .i64 0]) := by kernel_rfl
theorem vw : zgU Tryz.prog 118 5 1 = true := by kernel_rfl
theorem zck : tyIs Tryz.prog 118 true 5 = true := by kernel_rfl
theorem ti5 : Tryz.prog.info? 5 = some Tryz.t5 := by kernel_rfl
theorem zt5 : elemIs Tryz.prog 48 5 1 1 := ⟨Tryz.underlying48, Tryz.t5, _, by kernel_rfl, rfl, rfl, rfl, rfl, by decide⟩
abbrev wZ : EV := .pub (.v (.slice none 0 0))
structure G5 where
 a : Int
 b : Int
 c : Int
 d : Int
 e : Int
def qB (n : Int) : G5 := ⟨n / 10 / 10 / 10 / 10 % 10, n / 10 / 10 / 10 % 10, n / 10 / 10 % 10, n / 10 % 10, n % 10⟩
def eFg (g : G5) : List AV := [.v (.int .i64 g.a), .v (.int .i64 g.b), .v (.int .i64 g.c), .v (.int .i64 g.d), .v (.int .i64 g.e)]
def G5.ok (g : G5) : Prop := (0 <= g.a /\ g.a <= 9) /\ (0 <= g.b /\ g.b <= 9) /\ (0 <= g.c /\ g.c <= 9) /\ (0 <= g.d /\ g.d <= 9) /\ (0 <= g.e /\ g.e <= 9)
def chD (x : Int) : UInt8 := UInt8.ofNat (48 + x).toNat
def G5.chs (g : G5) : List UInt8 := [chD g.a, chD g.b, chD g.c, chD g.d, chD g.e]
def grp (n : Int) : List UInt8 := (qB n).chs
theorem zlN (n : Int) : (qB n).ok := by unfold qB G5.ok; dsimp only; omega
theorem zhE {x : Int} (h : 0 <= x /\ x <= 9) : ((chD x).toNat : Int) = 48 + x := by
 unfold chD
 rw [UInt8.toNat_ofNat']
 omega
theorem ztv {x : Int} (h : 0 <= x /\ x <= 9) : ztq (chD x) = [.pub (.v (.int .u8 (48 + x)))] := by
 unfold ztq; rw [zhE h]
theorem f86 (n : Int) (hn : 0 <= n /\ n <= 1000000000000) : ACall Tryz.prog G 86 [.v (.int .i64 n)] (.agg (eFg (qB n))) := by
 refine zS Tryz.func86 rfl (by kernel_rfl) rfl ?_
 refine zl (zh (jb rfl (wJ rfl rfl ziu rfl rfl) (zo (zf (zl (zh (jb rfl (wJ rfl rfl ziu rfl rfl) (zo (zf (zl (zl ?_)))))))))))
 refine zh (zg rfl rfl (zi rfl rfl) (zo (zf (zB ?_))))
 refine qy (ι := { k : Nat // k < 6 }) (fun k => match k.1 with | 0 => ⟨Tryz.f86.ntmps, frL [(0, I (n)), (2, .pp 0 1 0 0), (3, .pp 1 1 0 0), (5, I 0)], [.row [[I 0, I 0, I 0, I 0, I 0]], .row [[I 0, I 0, I 0, I 0, I 0]]]⟩ | 1 => ⟨Tryz.f86.ntmps, frL [(0, I (n / 10)), (2, .pp 0 1 0 0), (3, .pp 1 1 0 0), (5, I 1)], [.row [[I 0, I 0, I 0, I 0, I 0]], .row [[I 0, I 0, I 0, I 0, I (n % 10)]]]⟩ | 2 => ⟨Tryz.f86.ntmps, frL [(0, I (n / 10 / 10)), (2, .pp 0 1 0 0), (3, .pp 1 1 0 0), (5, I 2)], [.row [[I 0, I 0, I 0, I 0, I 0]], .row [[I 0, I 0, I 0, I (n / 10 % 10), I (n % 10)]]]⟩ | 3 => ⟨Tryz.f86.ntmps, frL [(0, I (n / 10 / 10 / 10)), (2, .pp 0 1 0 0), (3, .pp 1 1 0 0), (5, I 3)], [.row [[I 0, I 0, I 0, I 0, I 0]], .row [[I 0, I 0, I (n / 10 / 10 % 10), I (n / 10 % 10), I (n % 10)]]]⟩ | 4 => ⟨Tryz.f86.ntmps, frL [(0, I (n / 10 / 10 / 10 / 10)), (2, .pp 0 1 0 0), (3, .pp 1 1 0 0), (5, I 4)], [.row [[I 0, I 0, I 0, I 0, I 0]], .row [[I 0, I (n / 10 / 10 / 10 % 10), I (n / 10 / 10 % 10), I (n / 10 % 10), I (n % 10)]]]⟩ | _ => ⟨Tryz.f86.ntmps, frL [(0, I (n / 10 / 10 / 10 / 10 / 10)), (2, .pp 0 1 0 0), (3, .pp 1 1 0 0), (5, I 5)], [.row [[I 0, I 0, I 0, I 0, I 0]], .row [[I (n / 10 / 10 / 10 / 10 % 10), I (n / 10 / 10 / 10 % 10), I (n / 10 / 10 % 10), I (n / 10 % 10), I (n % 10)]]]⟩) (fun k => 6 - k.1) (⟨0, by omega⟩) ?_ ?_
 ·
  exact zt _ ⟨rfl, rfl, rfl, rfl, trivial⟩ (rfl)
 ·
  rintro ⟨k, hk⟩
  have hk3 : k = 0 ∨ k = 1 ∨ k = 2 ∨ k = 3 ∨ k = 4 ∨ k = 5 := by omega
  rcases hk3 with rfl | rfl | rfl | rfl | rfl | rfl
  ·
   dsimp only
   refine zl (zh (zg rfl rfl (qi rfl rfl rfl) (zo (zf (zl (zx rfl (fun h0 => ?_) (fun h0 => ?_)))))))
   ·
    refine zC (zf (zl (zB (zl (zh (zg rfl rfl (zi rfl rfl) (zg rfl rfl (zn rfl rfl) (zo (zf (zl (zh ?_)))))))))))
    refine zg rfl rfl (zi rfl rfl) (zg rfl rfl (ze5 rfl rfl rfl ⟨(by omega), (by omega)⟩) (zg rfl rfl (zi rfl rfl) (zg rfl rfl (yA rfl rfl rfl ⟨(by omega), (by omega)⟩) (zg rfl rfl (zJ rfl rfl rfl rfl rfl vw (by omega) (by omega)) ?_))))
    refine jb rfl (qG rfl rfl rfl rfl rfl rfl (jF rfl) ty3 (by rfl) (by exact zLb rfl)) ?_
    refine zo (zf (zh (zg rfl rfl (zi rfl rfl) (zg rfl rfl (zcj rfl rfl rfl ⟨(by omega), (by omega), (by omega)⟩) (zg rfl rfl (zn rfl rfl) (zo (zD (zf (zh (zg rfl rfl (zV rfl rfl rfl ⟨(by omega), (by omega)⟩) (zg rfl rfl (zi rfl rfl) ?_)))))))))))
    refine zo ?_
    exact ⟨⟨1, by omega⟩, by dsimp only; omega, (by refine zt (mem' := [.row [[I 0, I 0, I 0, I 0, I 0]], .row [[I 0, I 0, I 0, I 0, I (n % 10)]]]) [(0, I (n / 10)), (2, .pp 0 1 0 0), (3, .pp 1 1 0 0), (5, I 1)] ?_ ?_; exact ⟨rfl, rfl, rfl, rfl, trivial⟩; exact (rfl))⟩
   ·
    exfalso; simp at h0
  ·
   dsimp only
   refine zl (zh (zg rfl rfl (qi rfl rfl rfl) (zo (zf (zl (zx rfl (fun h0 => ?_) (fun h0 => ?_)))))))
   ·
    refine zC (zf (zl (zB (zl (zh (zg rfl rfl (zi rfl rfl) (zg rfl rfl (zn rfl rfl) (zo (zf (zl (zh ?_)))))))))))
    refine zg rfl rfl (zi rfl rfl) (zg rfl rfl (ze5 rfl rfl rfl ⟨(by omega), (by omega)⟩) (zg rfl rfl (zi rfl rfl) (zg rfl rfl (yA rfl rfl rfl ⟨(by omega), (by omega)⟩) (zg rfl rfl (zJ rfl rfl rfl rfl rfl vw (by omega) (by omega)) ?_))))
    refine jb rfl (qG rfl rfl rfl rfl rfl rfl (jF rfl) ty3 (by rfl) (by exact zLb rfl)) ?_
    refine zo (zf (zh (zg rfl rfl (zi rfl rfl) (zg rfl rfl (zcj rfl rfl rfl ⟨(by omega), (by omega), (by omega)⟩) (zg rfl rfl (zn rfl rfl) (zo (zD (zf (zh (zg rfl rfl (zV rfl rfl rfl ⟨(by omega), (by omega)⟩) (zg rfl rfl (zi rfl rfl) ?_)))))))))))
    refine zo ?_
    exact ⟨⟨2, by omega⟩, by dsimp only; omega, (by refine zt (mem' := [.row [[I 0, I 0, I 0, I 0, I 0]], .row [[I 0, I 0, I 0, I (n / 10 % 10), I (n % 10)]]]) [(0, I (n / 10 / 10)), (2, .pp 0 1 0 0), (3, .pp 1 1 0 0), (5, I 2)] ?_ ?_; exact ⟨rfl, rfl, rfl, rfl, trivial⟩; exact (rfl))⟩
   ·
    exfalso; simp at h0
  ·
   dsimp only
   refine zl (zh (zg rfl rfl (qi rfl rfl rfl) (zo (zf (zl (zx rfl (fun h0 => ?_) (fun h0 => ?_)))))))
   ·
    refine zC (zf (zl (zB (zl (zh (zg rfl rfl (zi rfl rfl) (zg rfl rfl (zn rfl rfl) (zo (zf (zl (zh ?_)))))))))))
    refine zg rfl rfl (zi rfl rfl) (zg rfl rfl (ze5 rfl rfl rfl ⟨(by omega), (by omega)⟩) (zg rfl rfl (zi rfl rfl) (zg rfl rfl (yA rfl rfl rfl ⟨(by omega), (by omega)⟩) (zg rfl rfl (zJ rfl rfl rfl rfl rfl vw (by omega) (by omega)) ?_))))
    refine jb rfl (qG rfl rfl rfl rfl rfl rfl (jF rfl) ty3 (by rfl) (by exact zLb rfl)) ?_
    refine zo (zf (zh (zg rfl rfl (zi rfl rfl) (zg rfl rfl (zcj rfl rfl rfl ⟨(by omega), (by omega), (by omega)⟩) (zg rfl rfl (zn rfl rfl) (zo (zD (zf (zh (zg rfl rfl (zV rfl rfl rfl ⟨(by omega), (by omega)⟩) (zg rfl rfl (zi rfl rfl) ?_)))))))))))
    refine zo ?_
    exact ⟨⟨3, by omega⟩, by dsimp only; omega, (by refine zt (mem' := [.row [[I 0, I 0, I 0, I 0, I 0]], .row [[I 0, I 0, I (n / 10 / 10 % 10), I (n / 10 % 10), I (n % 10)]]]) [(0, I (n / 10 / 10 / 10)), (2, .pp 0 1 0 0), (3, .pp 1 1 0 0), (5, I 3)] ?_ ?_; exact ⟨rfl, rfl, rfl, rfl, trivial⟩; exact (rfl))⟩
   ·
    exfalso; simp at h0
  ·
   dsimp only
   refine zl (zh (zg rfl rfl (qi rfl rfl rfl) (zo (zf (zl (zx rfl (fun h0 => ?_) (fun h0 => ?_)))))))
   ·
    refine zC (zf (zl (zB (zl (zh (zg rfl rfl (zi rfl rfl) (zg rfl rfl (zn rfl rfl) (zo (zf (zl (zh ?_)))))))))))
    refine zg rfl rfl (zi rfl rfl) (zg rfl rfl (ze5 rfl rfl rfl ⟨(by omega), (by omega)⟩) (zg rfl rfl (zi rfl rfl) (zg rfl rfl (yA rfl rfl rfl ⟨(by omega), (by omega)⟩) (zg rfl rfl (zJ rfl rfl rfl rfl rfl vw (by omega) (by omega)) ?_))))
    refine jb rfl (qG rfl rfl rfl rfl rfl rfl (jF rfl) ty3 (by rfl) (by exact zLb rfl)) ?_
    refine zo (zf (zh (zg rfl rfl (zi rfl rfl) (zg rfl rfl (zcj rfl rfl rfl ⟨(by omega), (by omega), (by omega)⟩) (zg rfl rfl (zn rfl rfl) (zo (zD (zf (zh (zg rfl rfl (zV rfl rfl rfl ⟨(by omega), (by omega)⟩) (zg rfl rfl (zi rfl rfl) ?_)))))))))))
    refine zo ?_
    exact ⟨⟨4, by omega⟩, by dsimp only; omega, (by refine zt (mem' := [.row [[I 0, I 0, I 0, I 0, I 0]], .row [[I 0, I (n / 10 / 10 / 10 % 10), I (n / 10 / 10 % 10), I (n / 10 % 10), I (n % 10)]]]) [(0, I (n / 10 / 10 / 10 / 10)), (2, .pp 0 1 0 0), (3, .pp 1 1 0 0), (5, I 4)] ?_ ?_; exact ⟨rfl, rfl, rfl, rfl, trivial⟩; exact (rfl))⟩
   ·
    exfalso; simp at h0
  ·
   dsimp only
   refine zl (zh (zg rfl rfl (qi rfl rfl rfl) (zo (zf (zl (zx rfl (fun h0 => ?_) (fun h0 => ?_)))))))
   ·
    refine zC (zf (zl (zB (zl (zh (zg rfl rfl (zi rfl rfl) (zg rfl rfl (zn rfl rfl) (zo (zf (zl (zh ?_)))))))))))
    refine zg rfl rfl (zi rfl rfl) (zg rfl rfl (ze5 rfl rfl rfl ⟨(by omega), (by omega)⟩) (zg rfl rfl (zi rfl rfl) (zg rfl rfl (yA rfl rfl rfl ⟨(by omega), (by omega)⟩) (zg rfl rfl (zJ rfl rfl rfl rfl rfl vw (by omega) (by omega)) ?_))))
    refine jb rfl (qG rfl rfl rfl rfl rfl rfl (jF rfl) ty3 (by rfl) (by exact zLb rfl)) ?_
    refine zo (zf (zh (zg rfl rfl (zi rfl rfl) (zg rfl rfl (zcj rfl rfl rfl ⟨(by omega), (by omega), (by omega)⟩) (zg rfl rfl (zn rfl rfl) (zo (zD (zf (zh (zg rfl rfl (zV rfl rfl rfl ⟨(by omega), (by omega)⟩) (zg rfl rfl (zi rfl rfl) ?_)))))))))))
    refine zo ?_
    exact ⟨⟨5, by omega⟩, by dsimp only; omega, (by refine zt (mem' := [.row [[I 0, I 0, I 0, I 0, I 0]], .row [[I (n / 10 / 10 / 10 / 10 % 10), I (n / 10 / 10 / 10 % 10), I (n / 10 / 10 % 10), I (n / 10 % 10), I (n % 10)]]]) [(0, I (n / 10 / 10 / 10 / 10 / 10)), (2, .pp 0 1 0 0), (3, .pp 1 1 0 0), (5, I 5)] ?_ ?_; exact ⟨rfl, rfl, rfl, rfl, trivial⟩; exact (rfl))⟩
   ·
    exfalso; simp at h0
  ·
   dsimp only
   refine zl (zh (zg rfl rfl (qi rfl rfl rfl) (zo (zf (zl (zx rfl (fun h0 => ?_) (fun h0 => ?_)))))))
   ·
    exfalso; simp at h0
   ·
    refine qp (zL (zL (qw (zf (zl (zh (zg rfl rfl (qN (cs := [_, _, _, _, _]) rfl rfl rfl rfl rfl (by exact zLb rfl) rfl zck) ?_)))))))
    refine jb rfl (qG rfl rfl rfl rfl rfl rfl (zY rfl) zck (by rfl) (by exact zLb rfl)) ?_
    refine zo (zf (zP ?_))
    exact ⟨.inr rfl, zhe rfl (jK rfl rfl rfl rfl zck rfl ⟨_, _, rfl, AVle.refl _, ⟨_, _, rfl, AVle.refl _, ⟨_, _, rfl, AVle.refl _, ⟨_, _, rfl, AVle.refl _, ⟨_, _, rfl, AVle.refl _, rfl⟩⟩⟩⟩⟩)⟩
theorem f87 (a b c d e : Int) (haa : 0 <= a /\ a <= 9) (hbb : 0 <= b /\ b <= 9) (hcc : 0 <= c /\ c <= 9) (hdd : 0 <= d /\ d <= 9) (hee : 0 <= e /\ e <= 9) : ACall Tryz.prog G 87 [.agg [.v (.int .i64 a), .v (.int .i64 b), .v (.int .i64 c), .v (.int .i64 d), .v (.int .i64 e)]] (eS [chD a, chD b, chD c, chD d, chD e]) := by
 refine zS Tryz.func87 rfl (by kernel_rfl) rfl ?_
 refine zl (zh (zg rfl rfl (jf rfl (zY rfl)) (zg rfl rfl (zn rfl rfl) (zo (zf (zl (zh (zg rfl rfl (zn rfl rfl) (zo (zf (zl ?_)))))))))))
 refine zl (zh (zg rfl rfl (zZ rfl rfl zck (by exact zLb rfl)) (zg rfl rfl (zi rfl rfl) (zo (zf (zB ?_))))))
 refine qy (ι := { k : Nat // k < 6 }) (fun k => match k.1 with | 0 => ⟨Tryz.f87.ntmps, frL [(3, wZ), (6, .pub (.agg [.v (.int .i64 a), .v (.int .i64 b), .v (.int .i64 c), .v (.int .i64 d), .v (.int .i64 e)])), (7, I 0)], []⟩ | 1 => ⟨Tryz.f87.ntmps, frL [(3, .psl 0 1), (6, .pub (.agg [.v (.int .i64 a), .v (.int .i64 b), .v (.int .i64 c), .v (.int .i64 d), .v (.int .i64 e)])), (7, I 1)], [.row [[.pub (.v (.int .u8 (48 + a)))]]]⟩ | 2 => ⟨Tryz.f87.ntmps, frL [(3, .psl 0 2), (6, .pub (.agg [.v (.int .i64 a), .v (.int .i64 b), .v (.int .i64 c), .v (.int .i64 d), .v (.int .i64 e)])), (7, I 2)], [.row [[.pub (.v (.int .u8 (48 + a)))], [.pub (.v (.int .u8 (48 + b)))]]]⟩ | 3 => ⟨Tryz.f87.ntmps, frL [(3, .psl 0 3), (6, .pub (.agg [.v (.int .i64 a), .v (.int .i64 b), .v (.int .i64 c), .v (.int .i64 d), .v (.int .i64 e)])), (7, I 3)], [.row [[.pub (.v (.int .u8 (48 + a)))], [.pub (.v (.int .u8 (48 + b)))], [.pub (.v (.int .u8 (48 + c)))]]]⟩ | 4 => ⟨Tryz.f87.ntmps, frL [(3, .psl 0 4), (6, .pub (.agg [.v (.int .i64 a), .v (.int .i64 b), .v (.int .i64 c), .v (.int .i64 d), .v (.int .i64 e)])), (7, I 4)], [.row [[.pub (.v (.int .u8 (48 + a)))], [.pub (.v (.int .u8 (48 + b)))], [.pub (.v (.int .u8 (48 + c)))], [.pub (.v (.int .u8 (48 + d)))]]]⟩ | _ => ⟨Tryz.f87.ntmps, frL [(3, .psl 0 5), (6, .pub (.agg [.v (.int .i64 a), .v (.int .i64 b), .v (.int .i64 c), .v (.int .i64 d), .v (.int .i64 e)])), (7, I 5)], [.row [[.pub (.v (.int .u8 (48 + a)))], [.pub (.v (.int .u8 (48 + b)))], [.pub (.v (.int .u8 (48 + c)))], [.pub (.v (.int .u8 (48 + d)))], [.pub (.v (.int .u8 (48 + e)))]]]⟩) (fun k => 6 - k.1) (⟨0, by omega⟩) ?_ ?_
 ·
  exact zt _ ⟨rfl, rfl, rfl, trivial⟩ (rfl)
 ·
  rintro ⟨k, hk⟩
  have hk3 : k = 0 ∨ k = 1 ∨ k = 2 ∨ k = 3 ∨ k = 4 ∨ k = 5 := by omega
  rcases hk3 with rfl | rfl | rfl | rfl | rfl | rfl
  ·
   dsimp only
   refine zl (zh (zg rfl rfl (qi rfl rfl rfl) (zo (zf (zl (zx rfl (fun h0 => ?_) (fun h0 => ?_)))))))
   ·
    refine zC (zf (zl (zB (zl (zh ?_)))))
    refine zg rfl rfl (ztp rfl rfl rfl vw (fun e he => by rw [Tryz.underlying118] at he; cases he; exact ty3) (by omega) (by omega) rfl) ?_
    refine zg rfl rfl (zn rfl rfl) (zo (zf (zh (zg rfl rfl (zi rfl rfl) (zg rfl rfl (zi rfl rfl) (zg rfl rfl (zV rfl rfl rfl ⟨(by omega), (by omega)⟩) (zg rfl rfl (y8 rfl rfl Tryz.underlying3 Tryz.underlying5 (wrap_u8 (by omega))) ?_)))))))
    refine zg rfl rfl (qg (size := 1) (rows := [[_]]) rfl Tryz.underlying48 ti5 rfl (by decide) rfl (by decide) ⟨_, _, rfl, (jF rfl), rfl⟩ (by rfl) (by simp [ofV]) rfl (by simp)) ?_
    refine jb rfl (ztU rfl rfl rfl rfl rfl zt5 (by simp) (by simp) (by unfold maxLen; simp)) ?_
    refine zg rfl rfl (qo rfl rfl) (zo (zD (zf (zh (zg rfl rfl (zV rfl rfl rfl ⟨(by omega), (by omega)⟩) (zg rfl rfl (zi rfl rfl) (zo ?_)))))))
    exact ⟨⟨1, by omega⟩, by dsimp only; omega, (by refine zt (mem' := [.row [[.pub (.v (.int .u8 (48 + a)))]]]) [(3, .psl 0 1), (6, .pub (.agg [.v (.int .i64 a), .v (.int .i64 b), .v (.int .i64 c), .v (.int .i64 d), .v (.int .i64 e)])), (7, I 1)] ?_ ?_; exact ⟨(by rfl), rfl, rfl, trivial⟩; exact (rfl))⟩
   ·
    exfalso; simp at h0
  ·
   dsimp only
   refine zl (zh (zg rfl rfl (qi rfl rfl rfl) (zo (zf (zl (zx rfl (fun h0 => ?_) (fun h0 => ?_)))))))
   ·
    refine zC (zf (zl (zB (zl (zh ?_)))))
    refine zg rfl rfl (ztp rfl rfl rfl vw (fun e he => by rw [Tryz.underlying118] at he; cases he; exact ty3) (by omega) (by omega) rfl) ?_
    refine zg rfl rfl (zn rfl rfl) (zo (zf (zh (zg rfl rfl (zI rfl rfl) (zg rfl rfl (zi rfl rfl) (zg rfl rfl (zV rfl rfl rfl ⟨(by omega), (by omega)⟩) (zg rfl rfl (y8 rfl rfl Tryz.underlying3 Tryz.underlying5 (wrap_u8 (by omega))) ?_)))))))
    refine zg rfl rfl (qg (size := 1) (rows := [[_]]) rfl Tryz.underlying48 ti5 rfl (by decide) rfl (by decide) ⟨_, _, rfl, (jF rfl), rfl⟩ (by rfl) (by simp [ofV]) rfl (by simp)) ?_
    refine jb rfl (vS rfl rfl rfl rfl (by simp) rfl zt5 (by simp) (by simp) (by simp) (by unfold maxLen; simp)) ?_
    refine zg rfl rfl (qo rfl rfl) (zo (zD (zf (zh (zg rfl rfl (zV rfl rfl rfl ⟨(by omega), (by omega)⟩) (zg rfl rfl (zi rfl rfl) (zo ?_)))))))
    exact ⟨⟨2, by omega⟩, by dsimp only; omega, (by refine zt (mem' := [.row [[.pub (.v (.int .u8 (48 + a)))], [.pub (.v (.int .u8 (48 + b)))]]]) [(3, .psl 0 2), (6, .pub (.agg [.v (.int .i64 a), .v (.int .i64 b), .v (.int .i64 c), .v (.int .i64 d), .v (.int .i64 e)])), (7, I 2)] ?_ ?_; exact ⟨(by rfl), rfl, rfl, trivial⟩; exact (rfl))⟩
   ·
    exfalso; simp at h0
  ·
   dsimp only
   refine zl (zh (zg rfl rfl (qi rfl rfl rfl) (zo (zf (zl (zx rfl (fun h0 => ?_) (fun h0 => ?_)))))))
   ·
    refine zC (zf (zl (zB (zl (zh ?_)))))
    refine zg rfl rfl (ztp rfl rfl rfl vw (fun e he => by rw [Tryz.underlying118] at he; cases he; exact ty3) (by omega) (by omega) rfl) ?_
    refine zg rfl rfl (zn rfl rfl) (zo (zf (zh (zg rfl rfl (zI rfl rfl) (zg rfl rfl (zi rfl rfl) (zg rfl rfl (zV rfl rfl rfl ⟨(by omega), (by omega)⟩) (zg rfl rfl (y8 rfl rfl Tryz.underlying3 Tryz.underlying5 (wrap_u8 (by omega))) ?_)))))))
    refine zg rfl rfl (qg (size := 1) (rows := [[_]]) rfl Tryz.underlying48 ti5 rfl (by decide) rfl (by decide) ⟨_, _, rfl, (jF rfl), rfl⟩ (by rfl) (by simp [ofV]) rfl (by simp)) ?_
    refine jb rfl (vS rfl rfl rfl rfl (by simp) rfl zt5 (by simp) (by simp) (by simp) (by unfold maxLen; simp)) ?_
    refine zg rfl rfl (qo rfl rfl) (zo (zD (zf (zh (zg rfl rfl (zV rfl rfl rfl ⟨(by omega), (by omega)⟩) (zg rfl rfl (zi rfl rfl) (zo ?_)))))))
    exact ⟨⟨3, by omega⟩, by dsimp only; omega, (by refine zt (mem' := [.row [[.pub (.v (.int .u8 (48 + a)))], [.pub (.v (.int .u8 (48 + b)))], [.pub (.v (.int .u8 (48 + c)))]]]) [(3, .psl 0 3), (6, .pub (.agg [.v (.int .i64 a), .v (.int .i64 b), .v (.int .i64 c), .v (.int .i64 d), .v (.int .i64 e)])), (7, I 3)] ?_ ?_; exact ⟨(by rfl), rfl, rfl, trivial⟩; exact (rfl))⟩
   ·
    exfalso; simp at h0
  ·
   dsimp only
   refine zl (zh (zg rfl rfl (qi rfl rfl rfl) (zo (zf (zl (zx rfl (fun h0 => ?_) (fun h0 => ?_)))))))
   ·
    refine zC (zf (zl (zB (zl (zh ?_)))))
    refine zg rfl rfl (ztp rfl rfl rfl vw (fun e he => by rw [Tryz.underlying118] at he; cases he; exact ty3) (by omega) (by omega) rfl) ?_
    refine zg rfl rfl (zn rfl rfl) (zo (zf (zh (zg rfl rfl (zI rfl rfl) (zg rfl rfl (zi rfl rfl) (zg rfl rfl (zV rfl rfl rfl ⟨(by omega), (by omega)⟩) (zg rfl rfl (y8 rfl rfl Tryz.underlying3 Tryz.underlying5 (wrap_u8 (by omega))) ?_)))))))
    refine zg rfl rfl (qg (size := 1) (rows := [[_]]) rfl Tryz.underlying48 ti5 rfl (by decide) rfl (by decide) ⟨_, _, rfl, (jF rfl), rfl⟩ (by rfl) (by simp [ofV]) rfl (by simp)) ?_
    refine jb rfl (vS rfl rfl rfl rfl (by simp) rfl zt5 (by simp) (by simp) (by simp) (by unfold maxLen; simp)) ?_
    refine zg rfl rfl (qo rfl rfl) (zo (zD (zf (zh (zg rfl rfl (zV rfl rfl rfl ⟨(by omega), (by omega)⟩) (zg rfl rfl (zi rfl rfl) (zo ?_)))))))
    exact ⟨⟨4, by omega⟩, by dsimp only; omega, (by refine zt (mem' := [.row [[.pub (.v (.int .u8 (48 + a)))], [.pub (.v (.int .u8 (48 + b)))], [.pub (.v (.int .u8 (48 + c)))], [.pub (.v (.int .u8 (48 + d)))]]]) [(3, .psl 0 4), (6, .pub (.agg [.v (.int .i64 a), .v (.int .i64 b), .v (.int .i64 c), .v (.int .i64 d), .v (.int .i64 e)])), (7, I 4)] ?_ ?_; exact ⟨(by rfl), rfl, rfl, trivial⟩; exact (rfl))⟩
   ·
    exfalso; simp at h0
  ·
   dsimp only
   refine zl (zh (zg rfl rfl (qi rfl rfl rfl) (zo (zf (zl (zx rfl (fun h0 => ?_) (fun h0 => ?_)))))))
   ·
    refine zC (zf (zl (zB (zl (zh ?_)))))
    refine zg rfl rfl (ztp rfl rfl rfl vw (fun e he => by rw [Tryz.underlying118] at he; cases he; exact ty3) (by omega) (by omega) rfl) ?_
    refine zg rfl rfl (zn rfl rfl) (zo (zf (zh (zg rfl rfl (zI rfl rfl) (zg rfl rfl (zi rfl rfl) (zg rfl rfl (zV rfl rfl rfl ⟨(by omega), (by omega)⟩) (zg rfl rfl (y8 rfl rfl Tryz.underlying3 Tryz.underlying5 (wrap_u8 (by omega))) ?_)))))))
    refine zg rfl rfl (qg (size := 1) (rows := [[_]]) rfl Tryz.underlying48 ti5 rfl (by decide) rfl (by decide) ⟨_, _, rfl, (jF rfl), rfl⟩ (by rfl) (by simp [ofV]) rfl (by simp)) ?_
    refine jb rfl (vS rfl rfl rfl rfl (by simp) rfl zt5 (by simp) (by simp) (by simp) (by unfold maxLen; simp)) ?_
    refine zg rfl rfl (qo rfl rfl) (zo (zD (zf (zh (zg rfl rfl (zV rfl rfl rfl ⟨(by omega), (by omega)⟩) (zg rfl rfl (zi rfl rfl) (zo ?_)))))))
    exact ⟨⟨5, by omega⟩, by dsimp only; omega, (by refine zt (mem' := [.row [[.pub (.v (.int .u8 (48 + a)))], [.pub (.v (.int .u8 (48 + b)))], [.pub (.v (.int .u8 (48 + c)))], [.pub (.v (.int .u8 (48 + d)))], [.pub (.v (.int .u8 (48 + e)))]]]) [(3, .psl 0 5), (6, .pub (.agg [.v (.int .i64 a), .v (.int .i64 b), .v (.int .i64 c), .v (.int .i64 d), .v (.int .i64 e)])), (7, I 5)] ?_ ?_; exact ⟨(by rfl), rfl, rfl, trivial⟩; exact (rfl))⟩
   ·
    exfalso; simp at h0
  ·
   dsimp only
   refine zl (zh (zg rfl rfl (qi rfl rfl rfl) (zo (zf (zl (zx rfl (fun h0 => ?_) (fun h0 => ?_)))))))
   ·
    exfalso; simp at h0
   ·
    refine qp (zL (zL (qw (zf (zl (zh (zg rfl rfl (zI rfl rfl) ?_)))))))
    refine zg rfl rfl (ztJ (l := [chD a, chD b, chD c, chD d, chD e]) rfl rfl (by show some (PO.row _) = some (PO.row _); simp only [List.map_cons, List.map_nil, ztv haa, ztv hbb, ztv hcc, ztv hdd, ztv hee]) rfl Tryz.underlying48 Tryz.underlying5 Tryz.underlying9) ?_
    refine zg rfl rfl (zn rfl rfl) (zo (zf (zP ?_)))
    exact ⟨.inr rfl, AVle.refl _⟩
theorem zut (g : G5) (h : g.ok) : ACall Tryz.prog G 87 [.agg (eFg g)] (eS g.chs) := f87 g.a g.b g.c g.d g.e h.1 h.2.1 h.2.2.1 h.2.2.2.1 h.2.2.2.2
end Go.Av
end
