
import Derived.Test.YtaphehlgijlfeaaGreatDoorWiA
import Derived.Test.YtaphehlgijlfeaaGreatDoorPlatG
set_option linter.unusedVariables false
set_option linter.unusedSimpArgs false
section
namespace Go.Av
open Go.Proofs
set_option maxRecDepth 100000
set_option maxHeartbeats 1000000
variable {G : Glob}
theorem ziu : (Tryz.prog.info? 118).bind (·.zero) = some (.agg #[.int .i64 0, .int .i64 0, .int .i64 0, .int .i64 0, .int .i64 0]) := by kernel_rfl
theorem vw : zgU Tryz.prog 118 5 1 = true := by kernel_rfl
theorem zck : tyIs Tryz.prog 118 true 5 = true := by kernel_rfl
theorem ti5 : Tryz.prog.info? 5 = some Tryz.t5 := by kernel_rfl
theorem zt5 : elemIs Tryz.prog 48 5 1 1 := ⟨Tryz.underlying48, Tryz.t5, _, by kernel_rfl, rfl, rfl, rfl, rfl, by decide⟩
abbrev wZ : EV := .pub (.v (.slice none 0 0))
def dv (n : Int) : Nat -> Int
 | 0 => n
 | k + 1 => dv n k / 10
def dig (n : Int) (p : Nat) : Int := dv n (4 - p) % 10
structure G5 where
 a : Int
 b : Int
 c : Int
 d : Int
 e : Int
def qB (n : Int) : G5 := ⟨n / 10 / 10 / 10 / 10 % 10, n / 10 / 10 / 10 % 10, n / 10 / 10 % 10, n / 10 % 10, n % 10⟩
def eFg (g : G5) : List AV := [.v (.int .i64 g.a), .v (.int .i64 g.b), .v (.int .i64 g.c), .v (.int .i64 g.d), .v (.int .i64 g.e)]
def G5.ok (g : G5) : Prop := (0 <= g.a /\ g.a <= 9) /\ (0 <= g.b /\ g.b <= 9) /\ (0 <= g.c /\ g.c <= 9) /\ (0 <= g.d /\ g.d <= 9) /\ (0 <= g.e /\ g.e <= 9)
def chD (x : Int) : UInt8 := UInt8.ofNat (48 + x).toNat
def G5.chs (g : G5) : List UInt8 := [chD g.a, chD g.b, chD g.c, chD g.d, chD g.e]
def grp (n : Int) : List UInt8 := (qB n).chs
theorem zlN (n : Int) : (qB n).ok := by unfold qB G5.ok; dsimp only; omega
theorem zqU {n N : Int} (h : 0 <= n /\ n <= N) : ∀ k, 0 <= dv n k /\ dv n k <= N
 | 0 => h
 | k + 1 => by
  have := zqU h k
  show 0 <= dv n k / 10 /\ dv n k / 10 <= N
  omega
theorem jq {n : Int} (p : Nat) : 0 <= dig n p /\ dig n p <= 9 := by unfold dig; omega
theorem zhE {x : Int} (h : 0 <= x /\ x <= 9) : ((chD x).toNat : Int) = 48 + x := by
 unfold chD
 rw [UInt8.toNat_ofNat']
 omega
theorem ztv {x : Int} (h : 0 <= x /\ x <= 9) : ztq (chD x) = [.pub (.v (.int .u8 (48 + x)))] := by
 unfold ztq; rw [zhE h]
theorem f86 (n : Int) (hn : 0 <= n /\ n <= 1000000000000) : ACall Tryz.prog G 86 [.v (.int .i64 n)] (.agg (eFg (qB n))) := by
 refine zS Tryz.func86 Y (by kernel_rfl) Y ?_
 refine zuy (zh (jb Y (wJ Y Y ziu Y Y) (zo (zf (zuy (zh (jb Y (wJ Y Y ziu Y Y) (zo (zf (zuy (zuy ?_)))))))))))
 refine zh (zE8 (zi Y Y) (zo (zf (zB ?_))))
 refine qy (ι := { k : Nat // k < 6 }) (fun k => match k.1 with | 0 => ⟨Tryz.f86.ntmps, frL [(0, I (n)), (2, .pp 0 1 0 0), (3, .pp 1 1 0 0), (5, I 0)], [.row [[I 0, I 0, I 0, I 0, I 0]], .row [[I 0, I 0, I 0, I 0, I 0]]]⟩ | 1 => ⟨Tryz.f86.ntmps, frL [(0, I (n / 10)), (2, .pp 0 1 0 0), (3, .pp 1 1 0 0), (5, I 1)], [.row [[I 0, I 0, I 0, I 0, I 0]], .row [[I 0, I 0, I 0, I 0, I (n % 10)]]]⟩ | 2 => ⟨Tryz.f86.ntmps, frL [(0, I (n / 10 / 10)), (2, .pp 0 1 0 0), (3, .pp 1 1 0 0), (5, I 2)], [.row [[I 0, I 0, I 0, I 0, I 0]], .row [[I 0, I 0, I 0, I (n / 10 % 10), I (n % 10)]]]⟩ | 3 => ⟨Tryz.f86.ntmps, frL [(0, I (n / 10 / 10 / 10)), (2, .pp 0 1 0 0), (3, .pp 1 1 0 0), (5, I 3)], [.row [[I 0, I 0, I 0, I 0, I 0]], .row [[I 0, I 0, I (n / 10 / 10 % 10), I (n / 10 % 10), I (n % 10)]]]⟩ | 4 => ⟨Tryz.f86.ntmps, frL [(0, I (n / 10 / 10 / 10 / 10)), (2, .pp 0 1 0 0), (3, .pp 1 1 0 0), (5, I 4)], [.row [[I 0, I 0, I 0, I 0, I 0]], .row [[I 0, I (n / 10 / 10 / 10 % 10), I (n / 10 / 10 % 10), I (n / 10 % 10), I (n % 10)]]]⟩ | _ => ⟨Tryz.f86.ntmps, frL [(0, I (n / 10 / 10 / 10 / 10 / 10)), (2, .pp 0 1 0 0), (3, .pp 1 1 0 0), (5, I 5)], [.row [[I 0, I 0, I 0, I 0, I 0]], .row [[I (n / 10 / 10 / 10 / 10 % 10), I (n / 10 / 10 / 10 % 10), I (n / 10 / 10 % 10), I (n / 10 % 10), I (n % 10)]]]⟩) (fun k => 6 - k.1) (⟨0, by omega⟩) ?_ ?_
 ·
  exact zt _ ⟨Y, Y, Y, Y, trivial⟩ (Y)
 ·
  rintro ⟨k, hk⟩
  have hk3 : k = 0 ∨ k = 1 ∨ k = 2 ∨ k = 3 ∨ k = 4 ∨ k = 5 := by omega
  rcases hk3 with rfl | rfl | rfl | rfl | rfl | rfl
  ·
   dsimp only
   refine zuy (zh (zE8 (qi Y Y Y) (zo (zf (zuy (zx Y (fun h0 => ?_) (fun h0 => ?_)))))))
   ·
    refine zC (zf (zuy (zB (zuy (zh (zE8 (zi Y Y) (zE8 (zn Y Y) (zo (zf (zuy (zh ?_)))))))))))
    refine zE8 (zi Y Y) (zE8 (ze5 Y Y Y ⟨(by omega), (by omega)⟩) (zE8 (zi Y Y) (zE8 (yA Y Y Y ⟨(by omega), (by omega)⟩) (zE8 (zJ Y Y Y Y Y vw (by omega) (by omega)) ?_))))
    refine jb Y (qG Y Y Y Y Y Y (jF Y) ty3 (by rfl) (by exact zLb Y)) ?_
    refine zo (zf (zh (zE8 (zi Y Y) (zE8 (zcj Y Y Y ⟨(by omega), (by omega), (by omega)⟩) (zE8 (zn Y Y) (zo (zD (zf (zh (zE8 (zV Y Y Y ⟨(by omega), (by omega)⟩) (zE8 (zi Y Y) ?_)))))))))))
    refine zo ?_
    exact ⟨⟨1, by omega⟩, by dsimp only; omega, (by refine zt (mem' := [.row [[I 0, I 0, I 0, I 0, I 0]], .row [[I 0, I 0, I 0, I 0, I (n % 10)]]]) [(0, I (n / 10)), (2, .pp 0 1 0 0), (3, .pp 1 1 0 0), (5, I 1)] ?_ ?_; exact ⟨Y, Y, Y, Y, trivial⟩; exact (Y))⟩
   ·
    exfalso; simp at h0
  ·
   dsimp only
   refine zuy (zh (zE8 (qi Y Y Y) (zo (zf (zuy (zx Y (fun h0 => ?_) (fun h0 => ?_)))))))
   ·
    refine zC (zf (zuy (zB (zuy (zh (zE8 (zi Y Y) (zE8 (zn Y Y) (zo (zf (zuy (zh ?_)))))))))))
    refine zE8 (zi Y Y) (zE8 (ze5 Y Y Y ⟨(by omega), (by omega)⟩) (zE8 (zi Y Y) (zE8 (yA Y Y Y ⟨(by omega), (by omega)⟩) (zE8 (zJ Y Y Y Y Y vw (by omega) (by omega)) ?_))))
    refine jb Y (qG Y Y Y Y Y Y (jF Y) ty3 (by rfl) (by exact zLb Y)) ?_
    refine zo (zf (zh (zE8 (zi Y Y) (zE8 (zcj Y Y Y ⟨(by omega), (by omega), (by omega)⟩) (zE8 (zn Y Y) (zo (zD (zf (zh (zE8 (zV Y Y Y ⟨(by omega), (by omega)⟩) (zE8 (zi Y Y) ?_)))))))))))
    refine zo ?_
    exact ⟨⟨2, by omega⟩, by dsimp only; omega, (by refine zt (mem' := [.row [[I 0, I 0, I 0, I 0, I 0]], .row [[I 0, I 0, I 0, I (n / 10 % 10), I (n % 10)]]]) [(0, I (n / 10 / 10)), (2, .pp 0 1 0 0), (3, .pp 1 1 0 0), (5, I 2)] ?_ ?_; exact ⟨Y, Y, Y, Y, trivial⟩; exact (Y))⟩
   ·
    exfalso; simp at h0
  ·
   dsimp only
   refine zuy (zh (zE8 (qi Y Y Y) (zo (zf (zuy (zx Y (fun h0 => ?_) (fun h0 => ?_)))))))
   ·
    refine zC (zf (zuy (zB (zuy (zh (zE8 (zi Y Y) (zE8 (zn Y Y) (zo (zf (zuy (zh ?_)))))))))))
    refine zE8 (zi Y Y) (zE8 (ze5 Y Y Y ⟨(by omega), (by omega)⟩) (zE8 (zi Y Y) (zE8 (yA Y Y Y ⟨(by omega), (by omega)⟩) (zE8 (zJ Y Y Y Y Y vw (by omega) (by omega)) ?_))))
    refine jb Y (qG Y Y Y Y Y Y (jF Y) ty3 (by rfl) (by exact zLb Y)) ?_
    refine zo (zf (zh (zE8 (zi Y Y) (zE8 (zcj Y Y Y ⟨(by omega), (by omega), (by omega)⟩) (zE8 (zn Y Y) (zo (zD (zf (zh (zE8 (zV Y Y Y ⟨(by omega), (by omega)⟩) (zE8 (zi Y Y) ?_)))))))))))
    refine zo ?_
    exact ⟨⟨3, by omega⟩, by dsimp only; omega, (by refine zt (mem' := [.row [[I 0, I 0, I 0, I 0, I 0]], .row [[I 0, I 0, I (n / 10 / 10 % 10), I (n / 10 % 10), I (n % 10)]]]) [(0, I (n / 10 / 10 / 10)), (2, .pp 0 1 0 0), (3, .pp 1 1 0 0), (5, I 3)] ?_ ?_; exact ⟨Y, Y, Y, Y, trivial⟩; exact (Y))⟩
   ·
    exfalso; simp at h0
  ·
   dsimp only
   refine zuy (zh (zE8 (qi Y Y Y) (zo (zf (zuy (zx Y (fun h0 => ?_) (fun h0 => ?_)))))))
   ·
    refine zC (zf (zuy (zB (zuy (zh (zE8 (zi Y Y) (zE8 (zn Y Y) (zo (zf (zuy (zh ?_)))))))))))
    refine zE8 (zi Y Y) (zE8 (ze5 Y Y Y ⟨(by omega), (by omega)⟩) (zE8 (zi Y Y) (zE8 (yA Y Y Y ⟨(by omega), (by omega)⟩) (zE8 (zJ Y Y Y Y Y vw (by omega) (by omega)) ?_))))
    refine jb Y (qG Y Y Y Y Y Y (jF Y) ty3 (by rfl) (by exact zLb Y)) ?_
    refine zo (zf (zh (zE8 (zi Y Y) (zE8 (zcj Y Y Y ⟨(by omega), (by omega), (by omega)⟩) (zE8 (zn Y Y) (zo (zD (zf (zh (zE8 (zV Y Y Y ⟨(by omega), (by omega)⟩) (zE8 (zi Y Y) ?_)))))))))))
    refine zo ?_
    exact ⟨⟨4, by omega⟩, by dsimp only; omega, (by refine zt (mem' := [.row [[I 0, I 0, I 0, I 0, I 0]], .row [[I 0, I (n / 10 / 10 / 10 % 10), I (n / 10 / 10 % 10), I (n / 10 % 10), I (n % 10)]]]) [(0, I (n / 10 / 10 / 10 / 10)), (2, .pp 0 1 0 0), (3, .pp 1 1 0 0), (5, I 4)] ?_ ?_; exact ⟨Y, Y, Y, Y, trivial⟩; exact (Y))⟩
   ·
    exfalso; simp at h0
  ·
   dsimp only
   refine zuy (zh (zE8 (qi Y Y Y) (zo (zf (zuy (zx Y (fun h0 => ?_) (fun h0 => ?_)))))))
   ·
    refine zC (zf (zuy (zB (zuy (zh (zE8 (zi Y Y) (zE8 (zn Y Y) (zo (zf (zuy (zh ?_)))))))))))
    refine zE8 (zi Y Y) (zE8 (ze5 Y Y Y ⟨(by omega), (by omega)⟩) (zE8 (zi Y Y) (zE8 (yA Y Y Y ⟨(by omega), (by omega)⟩) (zE8 (zJ Y Y Y Y Y vw (by omega) (by omega)) ?_))))
    refine jb Y (qG Y Y Y Y Y Y (jF Y) ty3 (by rfl) (by exact zLb Y)) ?_
    refine zo (zf (zh (zE8 (zi Y Y) (zE8 (zcj Y Y Y ⟨(by omega), (by omega), (by omega)⟩) (zE8 (zn Y Y) (zo (zD (zf (zh (zE8 (zV Y Y Y ⟨(by omega), (by omega)⟩) (zE8 (zi Y Y) ?_)))))))))))
    refine zo ?_
    exact ⟨⟨5, by omega⟩, by dsimp only; omega, (by refine zt (mem' := [.row [[I 0, I 0, I 0, I 0, I 0]], .row [[I (n / 10 / 10 / 10 / 10 % 10), I (n / 10 / 10 / 10 % 10), I (n / 10 / 10 % 10), I (n / 10 % 10), I (n % 10)]]]) [(0, I (n / 10 / 10 / 10 / 10 / 10)), (2, .pp 0 1 0 0), (3, .pp 1 1 0 0), (5, I 5)] ?_ ?_; exact ⟨Y, Y, Y, Y, trivial⟩; exact (Y))⟩
   ·
    exfalso; simp at h0
  ·
   dsimp only
   refine zuy (zh (zE8 (qi Y Y Y) (zo (zf (zuy (zx Y (fun h0 => ?_) (fun h0 => ?_)))))))
   ·
    exfalso; simp at h0
   ·
    refine qp (zL (zL (qw (zf (zuy (zh (zE8 (qN (cs := [_, _, _, _, _]) Y Y Y Y Y (by exact zLb Y) Y zck) ?_)))))))
    refine jb Y (qG Y Y Y Y Y Y (zY Y) zck (by rfl) (by exact zLb Y)) ?_
    refine zo (zf (zP ?_))
    exact ⟨.inr Y, zhe Y (jK Y Y Y Y zck Y ⟨_, _, Y, AVle.refl _, ⟨_, _, Y, AVle.refl _, ⟨_, _, Y, AVle.refl _, ⟨_, _, Y, AVle.refl _, ⟨_, _, Y, AVle.refl _, Y⟩⟩⟩⟩⟩)⟩
theorem f87 (a b c d e : Int) (haa : 0 <= a /\ a <= 9) (hbb : 0 <= b /\ b <= 9) (hcc : 0 <= c /\ c <= 9) (hdd : 0 <= d /\ d <= 9) (hee : 0 <= e /\ e <= 9) : ACall Tryz.prog G 87 [.agg [.v (.int .i64 a), .v (.int .i64 b), .v (.int .i64 c), .v (.int .i64 d), .v (.int .i64 e)]] (eS [chD a, chD b, chD c, chD d, chD e]) := by
 refine zS Tryz.func87 Y (by kernel_rfl) Y ?_
 refine zuy (zh (zE8 (jf Y (zY Y)) (zE8 (zn Y Y) (zo (zf (zuy (zh (zE8 (zn Y Y) (zo (zf (zuy ?_)))))))))))
 refine zuy (zh (zE8 (zZ Y Y zck (by exact zLb Y)) (zE8 (zi Y Y) (zo (zf (zB ?_))))))
 refine qy (ι := { k : Nat // k < 6 }) (fun k => match k.1 with | 0 => ⟨Tryz.f87.ntmps, frL [(3, wZ), (6, .pub (.agg [.v (.int .i64 a), .v (.int .i64 b), .v (.int .i64 c), .v (.int .i64 d), .v (.int .i64 e)])), (7, I 0)], []⟩ | 1 => ⟨Tryz.f87.ntmps, frL [(3, .psl 0 1), (6, .pub (.agg [.v (.int .i64 a), .v (.int .i64 b), .v (.int .i64 c), .v (.int .i64 d), .v (.int .i64 e)])), (7, I 1)], [.row [[.pub (.v (.int .u8 (48 + a)))]]]⟩ | 2 => ⟨Tryz.f87.ntmps, frL [(3, .psl 0 2), (6, .pub (.agg [.v (.int .i64 a), .v (.int .i64 b), .v (.int .i64 c), .v (.int .i64 d), .v (.int .i64 e)])), (7, I 2)], [.row [[.pub (.v (.int .u8 (48 + a)))], [.pub (.v (.int .u8 (48 + b)))]]]⟩ | 3 => ⟨Tryz.f87.ntmps, frL [(3, .psl 0 3), (6, .pub (.agg [.v (.int .i64 a), .v (.int .i64 b), .v (.int .i64 c), .v (.int .i64 d), .v (.int .i64 e)])), (7, I 3)], [.row [[.pub (.v (.int .u8 (48 + a)))], [.pub (.v (.int .u8 (48 + b)))], [.pub (.v (.int .u8 (48 + c)))]]]⟩ | 4 => ⟨Tryz.f87.ntmps, frL [(3, .psl 0 4), (6, .pub (.agg [.v (.int .i64 a), .v (.int .i64 b), .v (.int .i64 c), .v (.int .i64 d), .v (.int .i64 e)])), (7, I 4)], [.row [[.pub (.v (.int .u8 (48 + a)))], [.pub (.v (.int .u8 (48 + b)))], [.pub (.v (.int .u8 (48 + c)))], [.pub (.v (.int .u8 (48 + d)))]]]⟩ | _ => ⟨Tryz.f87.ntmps, frL [(3, .psl 0 5), (6, .pub (.agg [.v (.int .i64 a), .v (.int .i64 b), .v (.int .i64 c), .v (.int .i64 d), .v (.int .i64 e)])), (7, I 5)], [.row [[.pub (.v (.int .u8 (48 + a)))], [.pub (.v (.int .u8 (48 + b)))], [.pub (.v (.int .u8 (48 + c)))], [.pub (.v (.int .u8 (48 + d)))], [.pub (.v (.int .u8 (48 + e)))]]]⟩) (fun k => 6 - k.1) (⟨0, by omega⟩) ?_ ?_
 ·
  exact zt _ ⟨Y, Y, Y, trivial⟩ (Y)
 ·
  rintro ⟨k, hk⟩
  have hk3 : k = 0 ∨ k = 1 ∨ k = 2 ∨ k = 3 ∨ k = 4 ∨ k = 5 := by omega
  rcases hk3 with rfl | rfl | rfl | rfl | rfl | rfl
  ·
   dsimp only
   refine zuy (zh (zE8 (qi Y Y Y) (zo (zf (zuy (zx Y (fun h0 => ?_) (fun h0 => ?_)))))))
   ·
    refine zC (zf (zuy (zB (zuy (zh ?_)))))
    refine zE8 (ztp Y Y Y vw (fun e he => by rw [Tryz.underlying118] at he; cases he; exact ty3) (by omega) (by omega) Y) ?_
    refine zE8 (zn Y Y) (zo (zf (zh (zE8 (zi Y Y) (zE8 (zi Y Y) (zE8 (zV Y Y Y ⟨(by omega), (by omega)⟩) (zE8 (y8 Y Y Tryz.underlying3 Tryz.underlying5 (wrap_u8 (by omega))) ?_)))))))
    refine zE8 (qg (size := 1) (rows := [[_]]) Y Tryz.underlying48 ti5 Y (by decide) Y (by decide) ⟨_, _, Y, (jF Y), Y⟩ (by rfl) (by simp [ofV]) Y (by simp)) ?_
    refine jb Y (ztU Y Y Y Y Y zt5 (by simp) (by simp) (by unfold maxLen; simp)) ?_
    refine zE8 (qo Y Y) (zo (zD (zf (zh (zE8 (zV Y Y Y ⟨(by omega), (by omega)⟩) (zE8 (zi Y Y) (zo ?_)))))))
    exact ⟨⟨1, by omega⟩, by dsimp only; omega, (by refine zt (mem' := [.row [[.pub (.v (.int .u8 (48 + a)))]]]) [(3, .psl 0 1), (6, .pub (.agg [.v (.int .i64 a), .v (.int .i64 b), .v (.int .i64 c), .v (.int .i64 d), .v (.int .i64 e)])), (7, I 1)] ?_ ?_; exact ⟨(by rfl), Y, Y, trivial⟩; exact (Y))⟩
   ·
    exfalso; simp at h0
  ·
   dsimp only
   refine zuy (zh (zE8 (qi Y Y Y) (zo (zf (zuy (zx Y (fun h0 => ?_) (fun h0 => ?_)))))))
   ·
    refine zC (zf (zuy (zB (zuy (zh ?_)))))
    refine zE8 (ztp Y Y Y vw (fun e he => by rw [Tryz.underlying118] at he; cases he; exact ty3) (by omega) (by omega) Y) ?_
    refine zE8 (zn Y Y) (zo (zf (zh (zE8 (zI Y Y) (zE8 (zi Y Y) (zE8 (zV Y Y Y ⟨(by omega), (by omega)⟩) (zE8 (y8 Y Y Tryz.underlying3 Tryz.underlying5 (wrap_u8 (by omega))) ?_)))))))
    refine zE8 (qg (size := 1) (rows := [[_]]) Y Tryz.underlying48 ti5 Y (by decide) Y (by decide) ⟨_, _, Y, (jF Y), Y⟩ (by rfl) (by simp [ofV]) Y (by simp)) ?_
    refine jb Y (vS Y Y Y Y (by simp) Y zt5 (by simp) (by simp) (by simp) (by unfold maxLen; simp)) ?_
    refine zE8 (qo Y Y) (zo (zD (zf (zh (zE8 (zV Y Y Y ⟨(by omega), (by omega)⟩) (zE8 (zi Y Y) (zo ?_)))))))
    exact ⟨⟨2, by omega⟩, by dsimp only; omega, (by refine zt (mem' := [.row [[.pub (.v (.int .u8 (48 + a)))], [.pub (.v (.int .u8 (48 + b)))]]]) [(3, .psl 0 2), (6, .pub (.agg [.v (.int .i64 a), .v (.int .i64 b), .v (.int .i64 c), .v (.int .i64 d), .v (.int .i64 e)])), (7, I 2)] ?_ ?_; exact ⟨(by rfl), Y, Y, trivial⟩; exact (Y))⟩
   ·
    exfalso; simp at h0
  ·
   dsimp only
   refine zuy (zh (zE8 (qi Y Y Y) (zo (zf (zuy (zx Y (fun h0 => ?_) (fun h0 => ?_)))))))
   ·
    refine zC (zf (zuy (zB (zuy (zh ?_)))))
    refine zE8 (ztp Y Y Y vw (fun e he => by rw [Tryz.underlying118] at he; cases he; exact ty3) (by omega) (by omega) Y) ?_
    refine zE8 (zn Y Y) (zo (zf (zh (zE8 (zI Y Y) (zE8 (zi Y Y) (zE8 (zV Y Y Y ⟨(by omega), (by omega)⟩) (zE8 (y8 Y Y Tryz.underlying3 Tryz.underlying5 (wrap_u8 (by omega))) ?_)))))))
    refine zE8 (qg (size := 1) (rows := [[_]]) Y Tryz.underlying48 ti5 Y (by decide) Y (by decide) ⟨_, _, Y, (jF Y), Y⟩ (by rfl) (by simp [ofV]) Y (by simp)) ?_
    refine jb Y (vS Y Y Y Y (by simp) Y zt5 (by simp) (by simp) (by simp) (by unfold maxLen; simp)) ?_
    refine zE8 (qo Y Y) (zo (zD (zf (zh (zE8 (zV Y Y Y ⟨(by omega), (by omega)⟩) (zE8 (zi Y Y) (zo ?_)))))))
    exact ⟨⟨3, by omega⟩, by dsimp only; omega, (by refine zt (mem' := [.row [[.pub (.v (.int .u8 (48 + a)))], [.pub (.v (.int .u8 (48 + b)))], [.pub (.v (.int .u8 (48 + c)))]]]) [(3, .psl 0 3), (6, .pub (.agg [.v (.int .i64 a), .v (.int .i64 b), .v (.int .i64 c), .v (.int .i64 d), .v (.int .i64 e)])), (7, I 3)] ?_ ?_; exact ⟨(by rfl), Y, Y, trivial⟩; exact (Y))⟩
   ·
    exfalso; simp at h0
  ·
   dsimp only
   refine zuy (zh (zE8 (qi Y Y Y) (zo (zf (zuy (zx Y (fun h0 => ?_) (fun h0 => ?_)))))))
   ·
    refine zC (zf (zuy (zB (zuy (zh ?_)))))
    refine zE8 (ztp Y Y Y vw (fun e he => by rw [Tryz.underlying118] at he; cases he; exact ty3) (by omega) (by omega) Y) ?_
    refine zE8 (zn Y Y) (zo (zf (zh (zE8 (zI Y Y) (zE8 (zi Y Y) (zE8 (zV Y Y Y ⟨(by omega), (by omega)⟩) (zE8 (y8 Y Y Tryz.underlying3 Tryz.underlying5 (wrap_u8 (by omega))) ?_)))))))
    refine zE8 (qg (size := 1) (rows := [[_]]) Y Tryz.underlying48 ti5 Y (by decide) Y (by decide) ⟨_, _, Y, (jF Y), Y⟩ (by rfl) (by simp [ofV]) Y (by simp)) ?_
    refine jb Y (vS Y Y Y Y (by simp) Y zt5 (by simp) (by simp) (by simp) (by unfold maxLen; simp)) ?_
    refine zE8 (qo Y Y) (zo (zD (zf (zh (zE8 (zV Y Y Y ⟨(by omega), (by omega)⟩) (zE8 (zi Y Y) (zo ?_)))))))
    exact ⟨⟨4, by omega⟩, by dsimp only; omega, (by refine zt (mem' := [.row [[.pub (.v (.int .u8 (48 + a)))], [.pub (.v (.int .u8 (48 + b)))], [.pub (.v (.int .u8 (48 + c)))], [.pub (.v (.int .u8 (48 + d)))]]]) [(3, .psl 0 4), (6, .pub (.agg [.v (.int .i64 a), .v (.int .i64 b), .v (.int .i64 c), .v (.int .i64 d), .v (.int .i64 e)])), (7, I 4)] ?_ ?_; exact ⟨(by rfl), Y, Y, trivial⟩; exact (Y))⟩
   ·
    exfalso; simp at h0
  ·
   dsimp only
   refine zuy (zh (zE8 (qi Y Y Y) (zo (zf (zuy (zx Y (fun h0 => ?_) (fun h0 => ?_)))))))
   ·
    refine zC (zf (zuy (zB (zuy (zh ?_)))))
    refine zE8 (ztp Y Y Y vw (fun e he => by rw [Tryz.underlying118] at he; cases he; exact ty3) (by omega) (by omega) Y) ?_
    refine zE8 (zn Y Y) (zo (zf (zh (zE8 (zI Y Y) (zE8 (zi Y Y) (zE8 (zV Y Y Y ⟨(by omega), (by omega)⟩) (zE8 (y8 Y Y Tryz.underlying3 Tryz.underlying5 (wrap_u8 (by omega))) ?_)))))))
    refine zE8 (qg (size := 1) (rows := [[_]]) Y Tryz.underlying48 ti5 Y (by decide) Y (by decide) ⟨_, _, Y, (jF Y), Y⟩ (by rfl) (by simp [ofV]) Y (by simp)) ?_
    refine jb Y (vS Y Y Y Y (by simp) Y zt5 (by simp) (by simp) (by simp) (by unfold maxLen; simp)) ?_
    refine zE8 (qo Y Y) (zo (zD (zf (zh (zE8 (zV Y Y Y ⟨(by omega), (by omega)⟩) (zE8 (zi Y Y) (zo ?_)))))))
    exact ⟨⟨5, by omega⟩, by dsimp only; omega, (by refine zt (mem' := [.row [[.pub (.v (.int .u8 (48 + a)))], [.pub (.v (.int .u8 (48 + b)))], [.pub (.v (.int .u8 (48 + c)))], [.pub (.v (.int .u8 (48 + d)))], [.pub (.v (.int .u8 (48 + e)))]]]) [(3, .psl 0 5), (6, .pub (.agg [.v (.int .i64 a), .v (.int .i64 b), .v (.int .i64 c), .v (.int .i64 d), .v (.int .i64 e)])), (7, I 5)] ?_ ?_; exact ⟨(by rfl), Y, Y, trivial⟩; exact (Y))⟩
   ·
    exfalso; simp at h0
  ·
   dsimp only
   refine zuy (zh (zE8 (qi Y Y Y) (zo (zf (zuy (zx Y (fun h0 => ?_) (fun h0 => ?_)))))))
   ·
    exfalso; simp at h0
   ·
    refine qp (zL (zL (qw (zf (zuy (zh (zE8 (zI Y Y) ?_)))))))
    refine zE8 (ztJ (l := [chD a, chD b, chD c, chD d, chD e]) Y Y (by show some (PO.row _) = some (PO.row _); simp only [List.map_cons, List.map_nil, ztv haa, ztv hbb, ztv hcc, ztv hdd, ztv hee]) Y Tryz.underlying48 Tryz.underlying5 Tryz.underlying9) ?_
    refine zE8 (zn Y Y) (zo (zf (zP ?_)))
    exact ⟨.inr Y, AVle.refl _⟩
theorem zut (g : G5) (h : g.ok) : ACall Tryz.prog G 87 [.agg (eFg g)] (eS g.chs) := f87 g.a g.b g.c g.d g.e h.1 h.2.1 h.2.2.1 h.2.2.2.1 h.2.2.2.2
theorem f92 (n : Int) (p : Nat) (hn : 0 <= n /\ n <= 1000000000000) (hp : p <= 4) : ACall Tryz.prog G 92 [.v (.int .i64 n), .v (.int .i64 (p : Int))] (.v (.int .i64 (dig n p))) := by
 refine zS Tryz.func92 Y (by kernel_rfl) Y ?_
 refine zuy (zh (zE8 (zn Y Y) (zo (zf (zuy (zuy (zh (zE8 (zi Y Y) (zE8 (zn Y Y) (zo (zf ?_)))))))))))
 refine zB ?_
 refine qy (ι := { k : Nat // p + k <= 4 }) (fun k => ⟨Tryz.f92.ntmps, frL [(0, I (dv n k.1)), (5, I ((p : Int) + (k.1 : Int)))], []⟩) (fun k => 4 - p - k.1) (⟨0, by omega⟩) ?_ ?_
 ·
  exact zt _ ⟨Y, (congrArg (fun x : Int => I x) (by simp)), trivial⟩ (Y)
 ·
  rintro ⟨k, hk⟩
  dsimp only
  have hb := zqU hn k
  refine zuy (zuy (zh (zE8 (zi Y Y) (zE8 (qi Y Y Y) (zo (zf (zx Y (fun h0 => ?_) (fun h0 => ?_))))))))
  ·
   have hlt : p + k < 4 := by have := of_decide_eq_true h0; omega
   refine zC (zf (zuy (zB (zh (zE8 (zi Y Y) (zE8 (zcj Y Y Y ⟨(by omega), (by omega), (by omega)⟩) (zE8 (zn Y Y) (zo (zD (zf (zh ?_)))))))))))
   refine zE8 (zi Y Y) (zE8 (zV Y Y Y ⟨(by omega), (by omega)⟩) (zE8 (zn Y Y) (zo ?_)))
   exact ⟨⟨k + 1, by omega⟩, by dsimp only; omega, zt _ ⟨Y, (congrArg (fun x : Int => I x) (by show (p : Int) + (k : Int) + 1 = (p : Int) + ((k + 1 : Nat) : Int); omega)), trivial⟩ (Y)⟩
  ·
   have hge : k = 4 - p := by have := of_decide_eq_false h0; omega
   refine qp (zL (zL (qw (zf (zuy (zh (zE8 (zi Y Y) (zE8 (yA Y Y Y ⟨(by omega), (by omega)⟩) (zE8 (zn Y Y) (zo (zf ?_)))))))))))
   refine zP ?_
   exact ⟨.inr Y, AVle.of (by rw [hge]; rfl)⟩
theorem f94 (n : Int) (hn : 0 <= n /\ n <= 1000000000000) : ACall Tryz.prog G 94 [.v (.int .i64 n)] (eS (grp n)) := by
 refine zS Tryz.func94 Y (by kernel_rfl) Y ?_
 refine zuy (zh (zE8 (zn Y Y) (zo (zf (zuy (zh (zE8 (zn Y Y) (zo (zf (zuy (zuy ?_)))))))))))
 refine zh (zE8 (zn Y Y) (zo (zf (zB ?_))))
 refine qy (ι := { k : Nat // k < 6 }) (fun k => match k.1 with | 0 => ⟨Tryz.f94.ntmps, frL [(0, I n), (3, SL []), (4, I 0)], []⟩ | 1 => ⟨Tryz.f94.ntmps, frL [(0, I n), (3, SL [chD (dig n 0)]), (4, I 1)], []⟩ | 2 => ⟨Tryz.f94.ntmps, frL [(0, I n), (3, SL [chD (dig n 0), chD (dig n 1)]), (4, I 2)], []⟩ | 3 => ⟨Tryz.f94.ntmps, frL [(0, I n), (3, SL [chD (dig n 0), chD (dig n 1), chD (dig n 2)]), (4, I 3)], []⟩ | 4 => ⟨Tryz.f94.ntmps, frL [(0, I n), (3, SL [chD (dig n 0), chD (dig n 1), chD (dig n 2), chD (dig n 3)]), (4, I 4)], []⟩ | _ => ⟨Tryz.f94.ntmps, frL [(0, I n), (3, SL [chD (dig n 0), chD (dig n 1), chD (dig n 2), chD (dig n 3), chD (dig n 4)]), (4, I 5)], []⟩) (fun k => 6 - k.1) (⟨0, by omega⟩) ?_ ?_
 ·
  exact zt _ ⟨Y, Y, Y, trivial⟩ (Y)
 ·
  rintro ⟨k, hk⟩
  have hk3 : k = 0 ∨ k = 1 ∨ k = 2 ∨ k = 3 ∨ k = 4 ∨ k = 5 := by omega
  rcases hk3 with rfl | rfl | rfl | rfl | rfl | rfl
  ·
   dsimp only
   have hb := jq (n := n) 0
   refine zuy (zuy (zh (zE8 (zi Y Y) (zE8 (qi Y Y Y) (zo (zf (zx Y (fun h0 => ?_) (fun h0 => ?_))))))))
   ·
    refine zC (zf (zuy (zB (zh (zE8 (zi Y Y) (zE8 (zi Y Y) (zE8 (zi Y Y) (zE8 (zy (av := [_, _]) Y ⟨Y, Y, trivial⟩ (f92 n 0 hn (by omega))) (zE8 (zV Y Y Y ⟨(by omega), (by omega)⟩) (zE8 (y8 Y Y Tryz.underlying3 Tryz.underlying5 (wrap_u8 (by omega))) ?_))))))))))
    refine zE8 (qg (size := 1) (rows := [[_]]) Y Tryz.underlying48 ti5 Y (by decide) Y (by decide) ⟨_, _, Y, (jF Y), Y⟩ (by rfl) (by simp [ofV]) Y (by simp)) ?_
    refine zE8 (zax (ns := [48 + dig n 0]) Y Y Tryz.underlying48 Tryz.underlying5 Tryz.underlying9) ?_
    refine zE8 (zcI Y Y Y (by simp)) ?_
    refine zE8 (zn Y Y) (zo (zD (zf (zh (zE8 (zi Y Y) (zE8 (zV Y Y Y ⟨(by omega), (by omega)⟩) (zE8 (zn Y Y) (zo ?_))))))))
    exact ⟨⟨1, by omega⟩, by dsimp only; omega, (by refine zt (mem' := []) [(0, I n), (3, SL [chD (dig n 0)]), (4, I 1)] ?_ ?_; exact ⟨Y, Y, Y, trivial⟩; exact (Y))⟩
   ·
    exfalso; simp at h0
  ·
   dsimp only
   have hb := jq (n := n) 1
   refine zuy (zuy (zh (zE8 (zi Y Y) (zE8 (qi Y Y Y) (zo (zf (zx Y (fun h0 => ?_) (fun h0 => ?_))))))))
   ·
    refine zC (zf (zuy (zB (zh (zE8 (zi Y Y) (zE8 (zi Y Y) (zE8 (zi Y Y) (zE8 (zy (av := [_, _]) Y ⟨Y, Y, trivial⟩ (f92 n 1 hn (by omega))) (zE8 (zV Y Y Y ⟨(by omega), (by omega)⟩) (zE8 (y8 Y Y Tryz.underlying3 Tryz.underlying5 (wrap_u8 (by omega))) ?_))))))))))
    refine zE8 (qg (size := 1) (rows := [[_]]) Y Tryz.underlying48 ti5 Y (by decide) Y (by decide) ⟨_, _, Y, (jF Y), Y⟩ (by rfl) (by simp [ofV]) Y (by simp)) ?_
    refine zE8 (zax (ns := [48 + dig n 1]) Y Y Tryz.underlying48 Tryz.underlying5 Tryz.underlying9) ?_
    refine zE8 (zcI Y Y Y (by simp)) ?_
    refine zE8 (zn Y Y) (zo (zD (zf (zh (zE8 (zi Y Y) (zE8 (zV Y Y Y ⟨(by omega), (by omega)⟩) (zE8 (zn Y Y) (zo ?_))))))))
    exact ⟨⟨2, by omega⟩, by dsimp only; omega, (by refine zt (mem' := []) [(0, I n), (3, SL [chD (dig n 0), chD (dig n 1)]), (4, I 2)] ?_ ?_; exact ⟨Y, Y, Y, trivial⟩; exact (Y))⟩
   ·
    exfalso; simp at h0
  ·
   dsimp only
   have hb := jq (n := n) 2
   refine zuy (zuy (zh (zE8 (zi Y Y) (zE8 (qi Y Y Y) (zo (zf (zx Y (fun h0 => ?_) (fun h0 => ?_))))))))
   ·
    refine zC (zf (zuy (zB (zh (zE8 (zi Y Y) (zE8 (zi Y Y) (zE8 (zi Y Y) (zE8 (zy (av := [_, _]) Y ⟨Y, Y, trivial⟩ (f92 n 2 hn (by omega))) (zE8 (zV Y Y Y ⟨(by omega), (by omega)⟩) (zE8 (y8 Y Y Tryz.underlying3 Tryz.underlying5 (wrap_u8 (by omega))) ?_))))))))))
    refine zE8 (qg (size := 1) (rows := [[_]]) Y Tryz.underlying48 ti5 Y (by decide) Y (by decide) ⟨_, _, Y, (jF Y), Y⟩ (by rfl) (by simp [ofV]) Y (by simp)) ?_
    refine zE8 (zax (ns := [48 + dig n 2]) Y Y Tryz.underlying48 Tryz.underlying5 Tryz.underlying9) ?_
    refine zE8 (zcI Y Y Y (by simp)) ?_
    refine zE8 (zn Y Y) (zo (zD (zf (zh (zE8 (zi Y Y) (zE8 (zV Y Y Y ⟨(by omega), (by omega)⟩) (zE8 (zn Y Y) (zo ?_))))))))
    exact ⟨⟨3, by omega⟩, by dsimp only; omega, (by refine zt (mem' := []) [(0, I n), (3, SL [chD (dig n 0), chD (dig n 1), chD (dig n 2)]), (4, I 3)] ?_ ?_; exact ⟨Y, Y, Y, trivial⟩; exact (Y))⟩
   ·
    exfalso; simp at h0
  ·
   dsimp only
   have hb := jq (n := n) 3
   refine zuy (zuy (zh (zE8 (zi Y Y) (zE8 (qi Y Y Y) (zo (zf (zx Y (fun h0 => ?_) (fun h0 => ?_))))))))
   ·
    refine zC (zf (zuy (zB (zh (zE8 (zi Y Y) (zE8 (zi Y Y) (zE8 (zi Y Y) (zE8 (zy (av := [_, _]) Y ⟨Y, Y, trivial⟩ (f92 n 3 hn (by omega))) (zE8 (zV Y Y Y ⟨(by omega), (by omega)⟩) (zE8 (y8 Y Y Tryz.underlying3 Tryz.underlying5 (wrap_u8 (by omega))) ?_))))))))))
    refine zE8 (qg (size := 1) (rows := [[_]]) Y Tryz.underlying48 ti5 Y (by decide) Y (by decide) ⟨_, _, Y, (jF Y), Y⟩ (by rfl) (by simp [ofV]) Y (by simp)) ?_
    refine zE8 (zax (ns := [48 + dig n 3]) Y Y Tryz.underlying48 Tryz.underlying5 Tryz.underlying9) ?_
    refine zE8 (zcI Y Y Y (by simp)) ?_
    refine zE8 (zn Y Y) (zo (zD (zf (zh (zE8 (zi Y Y) (zE8 (zV Y Y Y ⟨(by omega), (by omega)⟩) (zE8 (zn Y Y) (zo ?_))))))))
    exact ⟨⟨4, by omega⟩, by dsimp only; omega, (by refine zt (mem' := []) [(0, I n), (3, SL [chD (dig n 0), chD (dig n 1), chD (dig n 2), chD (dig n 3)]), (4, I 4)] ?_ ?_; exact ⟨Y, Y, Y, trivial⟩; exact (Y))⟩
   ·
    exfalso; simp at h0
  ·
   dsimp only
   have hb := jq (n := n) 4
   refine zuy (zuy (zh (zE8 (zi Y Y) (zE8 (qi Y Y Y) (zo (zf (zx Y (fun h0 => ?_) (fun h0 => ?_))))))))
   ·
    refine zC (zf (zuy (zB (zh (zE8 (zi Y Y) (zE8 (zi Y Y) (zE8 (zi Y Y) (zE8 (zy (av := [_, _]) Y ⟨Y, Y, trivial⟩ (f92 n 4 hn (by omega))) (zE8 (zV Y Y Y ⟨(by omega), (by omega)⟩) (zE8 (y8 Y Y Tryz.underlying3 Tryz.underlying5 (wrap_u8 (by omega))) ?_))))))))))
    refine zE8 (qg (size := 1) (rows := [[_]]) Y Tryz.underlying48 ti5 Y (by decide) Y (by decide) ⟨_, _, Y, (jF Y), Y⟩ (by rfl) (by simp [ofV]) Y (by simp)) ?_
    refine zE8 (zax (ns := [48 + dig n 4]) Y Y Tryz.underlying48 Tryz.underlying5 Tryz.underlying9) ?_
    refine zE8 (zcI Y Y Y (by simp)) ?_
    refine zE8 (zn Y Y) (zo (zD (zf (zh (zE8 (zi Y Y) (zE8 (zV Y Y Y ⟨(by omega), (by omega)⟩) (zE8 (zn Y Y) (zo ?_))))))))
    exact ⟨⟨5, by omega⟩, by dsimp only; omega, (by refine zt (mem' := []) [(0, I n), (3, SL [chD (dig n 0), chD (dig n 1), chD (dig n 2), chD (dig n 3), chD (dig n 4)]), (4, I 5)] ?_ ?_; exact ⟨Y, Y, Y, trivial⟩; exact (Y))⟩
   ·
    exfalso; simp at h0
  ·
   dsimp only
   have hb := jq (n := n) 5
   refine zuy (zuy (zh (zE8 (zi Y Y) (zE8 (qi Y Y Y) (zo (zf (zx Y (fun h0 => ?_) (fun h0 => ?_))))))))
   ·
    exfalso; simp at h0
   ·
    refine qp (zL (zL (qw (zf (zuy (zh (zE8 (zi Y Y) (zE8 (zn Y Y) (zo (zf (zP ?_)))))))))))
    exact ⟨.inr Y, AVle.refl _⟩
end Go.Av
end
