
import Derived.Test.YtaphehlgijlfeaaGreatDoorWiT
import Derived.Test.YtaphehlgijlfeaaGreatDoorWiQ
import Derived.Test.YtaphehlgijlfeaaGreatDoorWiR
set_option linter.unusedVariables false
set_option linter.unusedSimpArgs false
section
namespace Go.Av
open Go.Proofs
set_option maxRecDepth 100000
set_option maxHeartbeats 1000000
variable {G : Glob}
theorem zsd : xn Tryz.prog 143 [(0, 1), (1, 1)] [.int .i64 0, .int .i64 0] := ⟨_, Tryz.underlying143, by kernel_rfl, by kernel_rfl⟩
theorem zsJ : Tryz.prog.info? 143 = some Tryz.t143 := by kernel_rfl
theorem zoA {c : Cod} {l : List (List (List UInt8))} (h : kJ c l = 0) : yT c l = 0 /\ xU c l = kC c l /\ kC c l ≠ [] := by
 unfold kJ at h
 by_cases h0 : yT c l = 0
 ·
  rw [if_pos h0] at h
  refine ⟨h0, by unfold xU; rw [if_pos h0], fun e => ?_⟩
  rw [if_pos e] at h; cases h
 ·
  rw [if_neg h0] at h; exact absurd h h0
theorem zk5 {c : Cod} {l : List (List (List UInt8))} (h : kJ c l = 0) : jA c = true /\ ∀ m ∈ xU c l, wS c m = true /\ m.length = c.fields.length /\ ∀ x ∈ m, 0 <= x /\ x <= 1000000000000 := by
 obtain ⟨h0, h1, _⟩ := zoA h
 obtain ⟨q1, q2, q3, q4⟩ := zh6 h0
 refine ⟨q1, fun m hm => ?_⟩
 rw [h1] at hm
 have := (zc0 q1 q2 q4).1 hm
 exact ⟨this.1, wU this.1, zlx q1 this.1⟩
theorem zpJ {k : Nat} {es : List (G5 × Value)} : PO.okL k (xN kN es) := fun p hp => by
 obtain ⟨q, hq, rfl⟩ := List.mem_map.1 hp
 obtain ⟨r, _, rfl⟩ := List.mem_map.1 hq
 trivial
theorem znl {k : Nat} {D : List (Int × Int)} : PO.okL k (.row (D.map fun p => [I p.1, I p.2])) := fun r hr x hx => by
 obtain ⟨q, _, rfl⟩ := List.mem_map.1 hr
 simp at hx
 rcases hx with rfl | rfl <;> trivial
theorem zsp {k : Nat} {a b : Int} : PO.okL k (.row [[I a, I b]]) := fun r hr x hx => by
 simp at hr; subst hr; simp at hx
 rcases hx with rfl | rfl <;> trivial
theorem zph {ks : List G5} {q : Nat} (h : q < ks.length) : max (mxK ks q : Int) (((ks.take (q + 1)).count (ks.getD q ⟨0, 0, 0, 0, 0⟩) : Nat) : Int) = ((mxK ks (q + 1) : Nat) : Int) := by
 have hg : ks.getD q ⟨0, 0, 0, 0, 0⟩ = ks[q] := by simp [h]
 rw [mxK, hg, zaQ h, if_pos rfl]; omega
theorem zoM (D : List (Int × Int)) : (D.map fun p => [I p.1, I p.2]) = (D.map ye).map (·.map .pub) := by simp [ye]
theorem zpQ (c : Cod) (l : List (List (List UInt8))) (hc : c.fields.length <= 1000 /\ c.turns.length <= 1000) (hl : l.length <= 1000) (hgl : ∀ g ∈ l, g.length <= 1000) (hf : kJ c l ≠ 0) : ACall Tryz.prog G 43 [.agg (qK c), qO l] (.tup [ei 0, ei 0, ei (kJ c l)]) := by
 refine zS Tryz.func43 rfl (by kernel_rfl) rfl ?_
 refine zl (zh (zg rfl rfl (jf rfl (zY rfl)) (zg rfl rfl (zn rfl rfl) (zg rfl rfl (zn rfl rfl) (zg rfl rfl (zn rfl rfl) (zo (zf (zl (zh (zg rfl rfl (zZ rfl rfl wH (by exact zLb rfl)) (zg rfl rfl (zq rfl rfl) ?_)))))))))))
 refine zg rfl rfl (zy (av := [_, _]) rfl ⟨rfl, rfl, trivial⟩ (f85 c l hc hl hgl)) (zg rfl rfl (zq rfl rfl) (zg rfl rfl (zN rfl rfl rfl) (zg rfl rfl (zN rfl rfl rfl) (zg rfl rfl (zW rfl rfl) (zg rfl rfl (zn rfl rfl) (zo (zf (zl (zl (zh (zg rfl rfl (zi rfl rfl) ?_)))))))))))
 refine zg rfl rfl (vg rfl rfl rfl) (zo (zf (zx rfl (fun h_0 => ?_) (fun h_0 => ?_))))
 ·
  refine zl (zh (zg rfl rfl (zi rfl rfl) (zg rfl rfl (zn rfl rfl) (zg rfl rfl (zn rfl rfl) (zg rfl rfl (zn rfl rfl) (zo (zf (zP (zQ ?_)))))))))
  exact ⟨.inr rfl, ⟨_, rfl, ⟨_, _, rfl, AVle.refl _, ⟨_, _, rfl, AVle.refl _, ⟨_, _, rfl, AVle.refl _, rfl⟩⟩⟩⟩⟩
 ·
  exfalso; simp at h_0; exact hf h_0
theorem zrU (c : Cod) (l : List (List (List UInt8))) (hc : c.fields.length <= 1000 /\ c.turns.length <= 1000) (hl : l.length <= 1000) (hgl : ∀ g ∈ l, g.length <= 1000) (hf : kJ c l = 0) (L : List (List Int)) (hL : L = xU c l) : ACall Tryz.prog G 43 [.agg (qK c), qO l] (.tup [ei (zbD (kK (c.fields.length + 1) L)).1, ei (zbD (kK (c.fields.length + 1) L)).2, ei 0]) := by
 have hfm := zk5 hf
 have hcb := wI hfm.1
 have hLb := (zce c l).1
 rw [← hL] at hfm hLb
 refine zS Tryz.func43 rfl (by kernel_rfl) rfl ?_
 refine zl (zh (zg rfl rfl (jf rfl (zY rfl)) (zg rfl rfl (zn rfl rfl) (zg rfl rfl (zn rfl rfl) (zg rfl rfl (zn rfl rfl) (zo (zf (zl (zh (zg rfl rfl (zZ rfl rfl wH (by exact zLb rfl)) (zg rfl rfl (zq rfl rfl) ?_)))))))))))
 refine zg rfl rfl (zy (av := [_, _]) rfl ⟨rfl, rfl, trivial⟩ (by have := f85 (G := G) c l hc hl hgl; rw [← hL, hf] at this; exact this)) ?_
 refine zg rfl rfl (zq rfl rfl) (zg rfl rfl (zN rfl rfl rfl) (zg rfl rfl (zN rfl rfl rfl) (zg rfl rfl (zW rfl rfl) (zg rfl rfl (zn rfl rfl) (zo (zf (zl (zl (zh (zg rfl rfl (zi rfl rfl) (zg rfl rfl (vg rfl rfl rfl) ?_)))))))))))
 refine zo (zf (zx rfl (fun h_0 => ?_) (fun h_0 => ?_)))
 ·
  exfalso; simp at h_0
 ·
  refine zC (zf (zl (zh (zg rfl rfl (zn rfl rfl) (zo (zf (zl (zl (zh (zg rfl rfl (zu rfl rfl jS) (zg rfl rfl (zA rfl rfl rfl zah) ?_)))))))))))
  refine zg rfl rfl (qh rfl rfl rfl Tryz.underlying22) ?_
  refine zg rfl rfl (zV rfl rfl rfl ⟨by simp; omega, by simp; omega⟩) ?_
  refine zg rfl rfl (zi rfl rfl) (zo (zf (zB ?_)))
  refine qx (kG 9 rfl) ?_
  refine qy (ι := { k : Nat // k <= c.fields.length + 1 }) (fun k => ⟨Tryz.f43.ntmps, frL [(2, .pub (.ptr (qK c))), (7, .pub (jc L)), (9, .psl 0 k.1), (29, I ((c.fields.length : Int) + 1)), (30, I (k.1 : Int))], [.row ((kK k.1 L).map fun p => [I p.1, I p.2])]⟩) (fun k => c.fields.length + 1 - k.1) (⟨0, by omega⟩) ?_ ?_
  ·
   exact zt _ ⟨rfl, rfl, rfl, (congrArg (fun z : Nat => I ((z : Int) + 1)) (List.length_map ..)), rfl, trivial⟩ (rfl)
  ·
   rintro ⟨k, hk⟩
   dsimp only
   have hk9 := hk
   refine zl (zh (zg rfl rfl (qi rfl rfl rfl) (zo (zf (zl (zx rfl (fun h_1 => ?_) (fun h_1 => ?_)))))))
   ·
    have hkn : k < c.fields.length + 1 := by simp at h_1; omega
    refine zC (zf (zl (zB (zl (zh (zg rfl rfl (zi rfl rfl) (zg rfl rfl (zn rfl rfl) (zo (zf (zl (zh ?_)))))))))))
    refine zg rfl rfl (zi rfl rfl) ?_
    refine zg rfl rfl (zb3 (cs := [_, _]) rfl zsd rfl ⟨_, _, rfl, (jF rfl), rfl⟩ (by rfl) (by simp [ofV])) ?_
    refine jb rfl (wJ rfl rfl ziB rfl rfl) ?_
    refine jb rfl (qG rfl rfl rfl rfl rfl rfl (zY rfl) xZ (by rfl) (by exact zLb rfl)) ?_
    refine zo (zf (zl (zh (jb rfl (zlZ rfl rfl) (zg rfl rfl (qV rfl rfl) (zo (zf (zl (zl (zh (zg rfl rfl (zq rfl rfl) ?_)))))))))))
    refine zg rfl rfl (qh rfl rfl rfl Tryz.underlying30) (zg rfl rfl (zi rfl rfl) (zo (zf (zB ?_))))
    refine qy (ι := { q : Nat // q <= L.length }) (fun q => ⟨Tryz.f43.ntmps, frL [(2, .pub (.ptr (qK c))), (7, .pub (jc L)), (9, .psl 0 k), (10, I (k : Int)), (11, .pp 1 1 0 0), (12, .mpv 2), (29, I ((c.fields.length : Int) + 1)), (30, I (k : Int)), (36, .pub (jc L)), (37, I (L.length : Int)), (38, I (q.1 : Int))], [.row ((kK k L).map fun p => [I p.1, I p.2]), .row [[I (k : Int), I ((mxK (qP L k) q.1 : Nat) : Int)]], xN kN (esK (qP L k) q.1)]⟩) (fun q => L.length - q.1) (⟨0, by omega⟩) ?_ ?_
    ·
     exact zt _ ⟨rfl, rfl, rfl, rfl, rfl, rfl, rfl, rfl, rfl, (congrArg (fun z : Nat => I (z : Int)) (List.length_map ..)), rfl, trivial⟩ (rfl)
    ·
     rintro ⟨q, hq⟩
     dsimp only
     refine zl (zh (zg rfl rfl (qi rfl rfl rfl) (zo (zf (zl (zx rfl (fun h_2 => ?_) (fun h_2 => ?_)))))))
     ·
      have hlt : q < L.length := by simpa [jc] using h_2
      have hgl2 := (hfm.2 _ (List.getElem_mem hlt)).2.1
      have hgat : ((vV L[q]).map eFg)[k]? = some (eFg ((qP L k).getD q ⟨0, 0, 0, 0, 0⟩)) := by
       rw [zpV hlt]; exact zsF (by simp [vV]; omega)
      have hmle := zro (ks := (qP L k)) (k := q)
      have hcle : (((qP L k).take q).count ((qP L k).getD q ⟨0, 0, 0, 0, 0⟩)) <= q := Nat.le_trans (zor _ (by rw [zbH]; omega)) hmle
      refine zC (zf (zl (zB (zl (zh (zg rfl rfl (zG rfl rfl rfl zea (by omega) (ints_at hlt) kz) (zg rfl rfl (zA rfl rfl rfl jO) (zg rfl rfl (zW rfl rfl) (zo (zf (zl ?_)))))))))))
      refine zh (zg rfl rfl (zq rfl rfl) ?_)
      refine zg rfl rfl (zy (av := [_]) rfl ⟨rfl, trivial⟩ (f99 L[q] (by have := (hfm.2 _ (List.getElem_mem hlt)).2.1; omega) (hfm.2 _ (List.getElem_mem hlt)).2.2)) ?_
      refine zg rfl rfl (zi rfl rfl) (zg rfl rfl (zG rfl rfl rfl zrY (by omega) (hgat) zsV) (zg rfl rfl (zZ rfl rfl zck (by exact zLb rfl)) ?_))
      refine vI  rfl rfl rfl rfl rfl rfl rfl ziu zck rfl (by rfl) (zY rfl) rfl ?_
      refine zo (zf (zl ?_))
      refine qx vz ?_
      refine wR (zjS kN 2 3 ((qP L k).getD q ⟨0, 0, 0, 0, 0⟩) (.int .i64 0) (esK (qP L k) q)) (fun k => match k with | 0 => .stable | 1 => .stable | 2 => .rd [3] | 3 => .stable | 4 => .rw [] 2 | 5 => .stable | 6 => .writes | _ => .here) mixed (by kernel_rfl) rfl (by kernel_rfl) (fun _ => .inl rfl) ?_
      refine wo rfl rfl (fun m hm => zM rfl rfl) (wo rfl rfl (fun m hm => zZ rfl rfl zck (by exact zLb rfl)) ?_)
      refine zkx [3] rfl rfl (fun m hm hC => zkE (n := (((((qP L k).take q).count ((qP L k).getD q ⟨0, 0, 0, 0, 0⟩)) : Nat) : Int)) hm rfl hC rfl rfl rfl (zlb (by rw [zbH]; omega))) ?_
      refine wo rfl rfl (fun m hm => zV rfl rfl rfl ⟨(by omega), (by omega)⟩) ?_
      refine zsb [] 2 rfl rfl (fun m hm hC => zmm (g := ((qP L k).getD q ⟨0, 0, 0, 0, 0⟩)) (es := esK (qP L k) q) hm rfl (by decide) hC rfl rfl rfl zqr) ?_
      refine wo rfl rfl (fun m hm => zN rfl rfl rfl) ?_
      refine zaw rfl rfl (zoZ (l := 2) (d := 3) (a := ((qP L k).getD q ⟨0, 0, 0, 0, 0⟩)) (z := .int .i64 0) (es := esK (qP L k) q) (v := .int .i64 (((((qP L k).take q).count ((qP L k).getD q ⟨0, 0, 0, 0, 0⟩)) : Int) + 1)) rfl rfl rfl rfl (by decide) rfl rfl) (fun h => absurd (show some PO.dead = some (PO.row []) from h) (by simp)) ?_
      refine wQ (zf ?_)
      refine qx (zt (mem' := [.row ((kK k L).map fun p => [I p.1, I p.2]), .row [[I (k : Int), I ((mxK (qP L k) q : Nat) : Int)]], xN kN (esK (qP L k) (q + 1)), .dead]) [(2, .pub (.ptr (qK c))), (7, .pub (jc L)), (9, .psl 0 k), (10, I (k : Int)), (11, .pp 1 1 0 0), (12, .mpv 2), (29, I ((c.fields.length : Int) + 1)), (30, I (k : Int)), (36, .pub (jc L)), (37, I (L.length : Int)), (15, .pub (.ptr (eFg ((qP L k).getD q ⟨0, 0, 0, 0, 0⟩)))), (38, I (q : Int))] ?_ ?_) ?_
      ·
       exact ⟨rfl, rfl, rfl, rfl, rfl, rfl, rfl, rfl, rfl, rfl, rfl, rfl, trivial⟩
      ·
       exact (congrArg (fun z => [PO.row ((kK k L).map fun p => [I p.1, I p.2]), .row [[I (k : Int), I ((mxK (qP L k) q : Nat) : Int)]], z, .dead]) (zn4 (qP L k) q ((qP L k).getD q ⟨0, 0, 0, 0, 0⟩) (((qP L k).take q).count ((qP L k).getD q ⟨0, 0, 0, 0, 0⟩)) rfl rfl))
      refine qx (vO 3 ?_ ?_) ?_
      ·
       exact ⟨trivial, trivial, (show _ < _ by omega), trivial, (show _ < _ by omega), (show _ < _ by omega), trivial, trivial, trivial, trivial, trivial, trivial, trivial⟩
      ·
       exact ⟨znl, zsp, zpJ, trivial⟩
      refine wR (fun _ => True) (fun k => match k with | 7 => .writes | _ => .here) mixed (by kernel_rfl) rfl (by kernel_rfl) trivial ?_
      refine zX rfl rfl (qE rfl rfl rfl rfl zbw) (zX rfl rfl (zK rfl rfl rfl rfl rfl rfl ty3) (zX rfl rfl (zM rfl rfl) (zX rfl rfl (zZ rfl rfl zck (by exact zLb rfl)) ?_)))
      refine zX rfl rfl (zmx (n := (((qP L k).take (q + 1)).count ((qP L k).getD q ⟨0, 0, 0, 0, 0⟩) : Nat)) rfl rfl rfl rfl (zlb (by rw [zbH]; omega))) ?_
      refine zX rfl rfl (zq3 rfl rfl rfl) (zX rfl rfl (qE rfl rfl rfl rfl zbw) ?_)
      refine zaw rfl rfl (jk rfl rfl rfl rfl rfl rfl (jF rfl) ty3 (by rfl) (by rfl)) trivial ?_
      refine wQ (zD (zf (zh (zg rfl rfl (zV rfl rfl rfl ⟨(by omega), (by omega)⟩) (zg rfl rfl (zi rfl rfl) (zo ?_))))))
      exact ⟨⟨q + 1, by omega⟩, by dsimp only; omega, zt _ ⟨rfl, rfl, rfl, rfl, rfl, rfl, rfl, rfl, rfl, rfl, rfl, trivial⟩ (congrArg (fun z => [PO.row ((kK k L).map fun p => [I p.1, I p.2]), .row [[I (k : Int), I z]], xN kN (esK (qP L k) (q + 1))]) (zph (by rw [zbH]; omega)))⟩
     ·
      have hge : L.length <= q := by simpa [jc] using h_2
      have hq2 : q = L.length := by omega
      refine qp (zL (zL (qw (zf (zh (zg rfl rfl (zI rfl rfl) (zg rfl rfl (qN (cs := [_, _]) rfl rfl rfl rfl rfl (by exact zLb rfl) rfl xZ) ?_)))))))
      refine zg rfl rfl (qg (size := 2) (rows := [[_, _]]) rfl Tryz.underlying141 zsJ rfl (by decide) rfl (by decide) ⟨_, _, rfl, (zY rfl), rfl⟩ (by rfl) (by simp [ofV]) rfl (by simp)) ?_
      refine jb rfl (vS rfl rfl rfl rfl (by rw [List.length_map, zbT]) rfl zsD (by intro r hr; obtain ⟨n, _, rfl⟩ := List.mem_map.1 hr; rfl) (by simp) (by simp; omega) (by unfold maxLen; simp; omega)) ?_
      refine zg rfl rfl (qo rfl rfl) (zo (zD (zf (zh (zg rfl rfl (zV rfl rfl rfl ⟨(by omega), (by omega)⟩) (zg rfl rfl (zi rfl rfl) (zo ?_)))))))
      exact ⟨⟨k + 1, by omega⟩, by dsimp only; omega, Weak.trans (zt (mem' := [.row ((kK (k + 1) L).map fun p => [I p.1, I p.2]), .row [[I (k : Int), I ((mxK (qP L k) q : Nat) : Int)]], xN kN (esK (qP L k) q)]) [(2, .pub (.ptr (qK c))), (7, .pub (jc L)), (9, .psl 0 (k + 1)), (29, I ((c.fields.length : Int) + 1)), (30, I ((k + 1 : Nat) : Int))] ⟨rfl, rfl, rfl, rfl, rfl, trivial⟩ (congrArg (fun z => [PO.row z, .row [[I (k : Int), I ((mxK (qP L k) q : Nat) : Int)]], xN kN (esK (qP L k) q)]) ((congrArg (fun n : Nat => ((kK k L).map fun p => [I p.1, I p.2]) ++ [[I (k : Int), I ((mxK (qP L k) n : Nat) : Int)]]) hq2).trans (znd L k)))) (vO 1 ⟨trivial, trivial, (show _ < _ by omega), trivial, trivial, trivial⟩ ⟨znl, trivial⟩)⟩
   ·
    have hkn : k = c.fields.length + 1 := by simp at h_1; omega
    refine qp (zL (zL (qw (zf (zl ?_)))))
    refine qx (zcT (k := 0) (m := k) (rows := (kK (c.fields.length + 1) L).map ye) [9] ?_ ?_ ?_) ?_
    ·
     exact (congrArg (fun z => some (PO.row z)) (show ((kK k L).map fun p => [I p.1, I p.2]) = _ by rw [hkn]; exact zoM _))
    ·
     rw [List.length_map, zbT, hkn]
    ·
     intro d hd; rw [List.mem_singleton] at hd; subst hd; rfl
    refine zh (zg rfl rfl (zq rfl rfl) ?_)
    refine zg rfl rfl (zy (av := [_, _]) rfl ⟨rfl, rfl, trivial⟩ (f100 (kK (c.fields.length + 1) L) (by rw [zbT]; omega) (by rw [zbT]; omega))) ?_
    refine vI  rfl rfl rfl rfl rfl rfl rfl ziB xZ rfl (by rfl) (zY rfl) rfl ?_
    refine zo (zf (zl ?_))
    refine qY mixed (by kernel_rfl) rfl ?_
    refine zH rfl (zu rfl rfl znP) (zH rfl (zA rfl rfl rfl ty3) (zH rfl (zu rfl rfl zbw) (zH rfl (zA rfl rfl rfl ty3) (zH rfl (zn rfl rfl) (zH rfl (zn rfl rfl) (zH rfl (zn rfl rfl) (jw (zf (zP ?_)))))))))
    exact ⟨.inr rfl, ⟨_, rfl, ⟨_, _, rfl, AVle.refl _, ⟨_, _, rfl, AVle.refl _, ⟨_, _, rfl, AVle.refl _, rfl⟩⟩⟩⟩⟩
end Go.Av
end
section
namespace Go.Av
open Go.Proofs
set_option maxRecDepth 100000
set_option maxHeartbeats 1000000
variable {G : Glob}
def jy (L : List (List Int)) (p : Nat) : List (List UInt8) := L.map fun m => (jQ m).getD p []
def lfK (ss : List (List UInt8)) : Nat -> Nat
 | 0 => 0
 | k + 1 => max (lfK ss k) (ss.count (ss.getD k []))
theorem zrg {ss : List (List UInt8)} : ∀ k, lfK ss k <= ss.length := fun k => by
 induction k with
 | zero => exact Nat.zero_le _
 | succ k ih => rw [lfK]; have : ss.count (ss.getD k []) <= ss.length := List.count_le_length; omega
theorem zrI {ss : List (List UInt8)} : ∀ {k i : Nat}, i < k -> ss.count (ss.getD i []) <= lfK ss k := by
 intro k
 induction k with
 | zero => intro i h; omega
 | succ k ih =>
  intro i h
  rw [lfK]
  by_cases e : i = k
  ·
   subst e; omega
  ·
   have := ih (i := i) (by omega); omega
theorem zrp {ss : List (List UInt8)} : ∀ {k : Nat}, 0 < k -> ∃ i, i < k /\ lfK ss k = ss.count (ss.getD i []) := by
 intro k
 induction k with
 | zero => intro h; omega
 | succ k ih =>
  intro _
  rw [lfK]
  by_cases h : lfK ss k <= ss.count (ss.getD k [])
  ·
   exact ⟨k, by omega, by omega⟩
  ·
   have hk : 0 < k := by
    rcases Nat.eq_zero_or_pos k with h0 | h0
    ·
     subst h0; simp [lfK] at h
    ·
     exact h0
   obtain ⟨i, hi, he⟩ := ih hk
   exact ⟨i, by omega, by omega⟩
theorem zpM {a b : G5} (ha : a.ok) (hb : b.ok) (h : a.chs = b.chs) : a = b := by
 unfold G5.ok at ha hb
 have z : ∀ {x y : Int}, 0 <= x /\ x <= 9 -> 0 <= y /\ y <= 9 -> chD x = chD y -> x = y := fun {x y} hx hy e => by
  have h1 := zhE hx
  have h2 := zhE hy
  rw [e] at h1; omega
 cases a with
 | mk a1 a2 a3 a4 a5 =>
 cases b with
 | mk b1 b2 b3 b4 b5 =>
 simp only [G5.chs, List.cons.injEq, and_true] at h
 rw [G5.mk.injEq]
 exact ⟨z ha.1 hb.1 h.1, z ha.2.1 hb.2.1 h.2.1, z ha.2.2.1 hb.2.2.1 h.2.2.1, z ha.2.2.2.1 hb.2.2.2.1 h.2.2.2.1, z ha.2.2.2.2 hb.2.2.2.2 h.2.2.2.2⟩
theorem zgD : ∀ {l : List G5} {a : G5}, (∀ g ∈ l, g.ok) -> a.ok -> (l.map G5.chs).count a.chs = l.count a := by
 intro l
 induction l with
 | nil => intro a _ _; rfl
 | cons g l ih =>
  intro a h ha
  rw [List.map_cons, List.count_cons, List.count_cons, ih (fun x hx => h x (List.mem_cons_of_mem _ hx)) ha]
  congr 1
  have hg := h g (List.mem_cons_self ..)
  by_cases e : g = a
  ·
   subst e; simp
  ·
   rw [if_neg (by simpa using fun q => e (zpM hg ha q)), if_neg (by simpa using e)]
theorem zdz {L : List (List Int)} {p : Nat} (h : ∀ m ∈ L, p <= m.length) : jy L p = (qP L p).map G5.chs := by
 unfold jy qP
 rw [List.map_map]
 refine List.map_congr_left fun m hm => ?_
 have hp : p < (vV m).length := by have := h m hm; simp [vV]; omega
 simp [jQ, hp]
theorem zpq {L : List (List Int)} {p : Nat} (h : ∀ m ∈ L, p <= m.length) : ∀ g ∈ qP L p, g.ok := fun g hg => by
 obtain ⟨m, hm, rfl⟩ := List.mem_map.1 hg
 have hp : p < (vV m).length := by have := h m hm; simp [vV]; omega
 have e : (vV m).getD p ⟨0, 0, 0, 0, 0⟩ = (vV m)[p] := by simp [hp]
 simp only [e]
 exact zpI _ (List.getElem_mem hp)
theorem zmc {L : List (List Int)} {p : Nat} (h : ∀ m ∈ L, p <= m.length) : lfK (jy L p) L.length = kL L p := by
 have hk := zpq h
 have hl := zbH L p
 rcases Nat.eq_zero_or_pos L.length with h0 | h0
 ·
  unfold kL; rw [h0]; rfl
 ·
  have hsl : (jy L p).length = L.length := by simp [jy]
  apply Nat.le_antisymm
  ·
   obtain ⟨i, hi, he⟩ := zrp (ss := jy L p) h0
   rw [he, zdz h]
   have e : ((qP L p).map G5.chs).getD i [] = ((qP L p)[i]'(by omega)).chs := by simp [show i < (qP L p).length by omega]
   rw [e, zgD hk (hk _ (List.getElem_mem _))]
   have := zor (ks := qP L p) ((qP L p)[i]'(by omega)) (k := L.length) (by omega)
   rw [List.take_of_length_le (by omega)] at this
   exact this
  ·
   obtain ⟨g, hg, he⟩ := zrZ (ks := qP L p) (k := L.length) (by omega) h0
   unfold kL
   rw [he, List.take_of_length_le (by omega), ← zgD hk (hk g hg), ← zdz h]
   obtain ⟨i, hi, rfl⟩ := List.getElem_of_mem hg
   have e : (jy L p).getD i [] = ((qP L p)[i]).chs := by rw [zdz h]; simp [hi]
   rw [← e]
   exact zrI (by omega)
theorem zhs {n i : Nat} {L : List (List Int)} (h : i < n) : (kK n L).getD i (0, 0) = ((i : Int), (kL L i : Int)) := by simp [kK, h]
theorem vM (L : List (List Int)) (p : Nat) : (jy L p).length = L.length := by simp [jy]
theorem znE {m : List Int} {p : Nat} (h : p <= m.length) : ((jQ m).map fun s => [eS s])[p]? = some [eS ((jQ m).getD p [])] := by
 have : p < (jQ m).length := by rw [vG]; omega
 simp [this]
theorem zoX {L : List (List Int)} {p k : Nat} (h : k < L.length) : ((L.take k).map fun m => [SL ((jQ m).getD p [])]) ++ [[SL ((jQ L[k]).getD p [])]] = (L.take (k + 1)).map fun m => [SL ((jQ m).getD p [])] := by
 rw [List.take_succ_eq_append_getElem h, List.map_append]; rfl
theorem zny (L : List (List Int)) (p : Nat) : (L.map fun m => [SL ((jQ m).getD p [])]) = zbh (jy L p) := by simp [zbh, jy]
theorem zmA {ss : List (List UInt8)} {j : Nat} (h : j < ss.length) (s : List UInt8) : ((ss.take (j + 1)).count s : Nat) = (ss.take j).count s + if ss.getD j [] = s then 1 else 0 := by
 rw [List.take_succ_eq_append_getElem h, List.count_append]
 have : ss.getD j [] = ss[j] := by simp [h]
 rw [this]
 by_cases e : ss[j] = s <;> simp [e]
theorem f45 (L : List (List Int)) (p : Nat) (hL : L.length <= 4000000) (hm : ∀ m ∈ L, p <= m.length /\ m.length <= 1000 /\ ∀ x ∈ m, 0 <= x /\ x <= 1000000000000) : ACall Tryz.prog G 45 [jc L, ei (p : Int)] (ei ((lfK (jy L p) L.length : Nat) : Int)) := by
 refine zS Tryz.func45 rfl (by kernel_rfl) rfl ?_
 refine zl (zh (zg rfl rfl (zn rfl rfl) (zo (zf (zl (zh (zg rfl rfl (zn rfl rfl) (zo (zf (zl (zh ?_)))))))))))
 refine zg rfl rfl (zn rfl rfl) (zo (zf (zl (zl (zh (zg rfl rfl (zn rfl rfl) (zo (zf (zB ?_)))))))))
 refine qx (kG 6 rfl) ?_
 refine qy (ι := { k : Nat // k <= L.length }) (fun k => ⟨Tryz.f45.ntmps, frL [(0, .pub (jc L)), (1, I (p : Int)), (5, I 0), (6, .psl 0 k.1), (7, I (k.1 : Int))], [.row ((L.take k.1).map fun m => [SL ((jQ m).getD p [])])]⟩) (fun k => L.length - k.1) (⟨0, by omega⟩) ?_ ?_
 ·
  exact zt _ ⟨rfl, rfl, rfl, rfl, rfl, trivial⟩ (rfl)
 ·
  rintro ⟨k, hk⟩
  dsimp only
  refine zl (zl (zh (zg rfl rfl (zi rfl rfl) (zg rfl rfl (zq rfl rfl) (zg rfl rfl (qh rfl rfl rfl Tryz.underlying30) (zg rfl rfl (qi rfl rfl rfl) (zo (zf (zx rfl (fun h_0 => ?_) (fun h_0 => ?_))))))))))
  ·
   have hlt : k < L.length := by simpa [jc] using h_0
   have hmk := hm _ (List.getElem_mem hlt)
   refine zC (zf (zl (zB (zh (zg rfl rfl (zI rfl rfl) (zg rfl rfl (zq rfl rfl) (zg rfl rfl (zi rfl rfl) (zg rfl rfl (zG rfl rfl rfl zea (by omega) (ints_at hlt) kz) (zg rfl rfl (zA rfl rfl rfl jO) (zg rfl rfl (zy (av := [_]) rfl ⟨rfl, trivial⟩ (f35 L[k] hmk.2.1 hmk.2.2)) (zg rfl rfl (zi rfl rfl) ?_)))))))))))
   refine zg rfl rfl (zG rfl rfl rfl yJ (by omega) (znE hmk.1) vZ) (zg rfl rfl (zA rfl rfl rfl ty9) ?_)
   refine zg rfl rfl (qg (size := 1) (rows := [[_]]) rfl Tryz.underlying34 ti9 rfl (by decide) rfl (by decide) ⟨_, _, rfl, (jF rfl), rfl⟩ (by rfl) (by simp [ofV]) rfl (by simp)) ?_
   refine jb rfl (vS rfl rfl rfl rfl (by simp; omega) rfl zrL (by intro r hr; obtain ⟨n, _, rfl⟩ := List.mem_map.1 hr; rfl) (by simp) (by simp; omega) (by unfold maxLen; simp; omega)) ?_
   refine zg rfl rfl (qo rfl rfl) (zo (zD (zf (zh (zg rfl rfl (zi rfl rfl) (zg rfl rfl (zV rfl rfl rfl ⟨(by omega), (by omega)⟩) (zg rfl rfl (zn rfl rfl) (zo ?_))))))))
   exact ⟨⟨k + 1, by omega⟩, by dsimp only; omega, zt _ ⟨rfl, rfl, rfl, rfl, rfl, trivial⟩ (congrArg (fun z => [PO.row z]) (zoX hlt))⟩
  ·
   have hge : L.length <= k := by simpa [jc] using h_0
   have hk2 : k = L.length := by omega
   refine qp (zL (zL (qw (zf (zl (zl (zh (zg rfl rfl (zn rfl rfl) (zo (zf (zB ?_)))))))))))
   refine qy (ι := { i : Nat // i <= L.length }) (fun i => ⟨Tryz.f45.ntmps, frL [(5, I ((lfK (jy L p) i.1 : Nat) : Int)), (6, .psl 0 L.length), (8, I (i.1 : Int))], [.row (zbh (jy L p))]⟩) (fun i => L.length - i.1) (⟨0, by omega⟩) ?_ ?_
   ·
    exact zt _ ⟨rfl, (congrArg (EV.psl 0) hk2), rfl, trivial⟩ ((by rw [hk2, List.take_length]; exact congrArg (fun z => [PO.row z]) (zny L p)))
   ·
    rintro ⟨i, hi⟩
    dsimp only
    refine zl (zl (zh (zg rfl rfl (zi rfl rfl) (zg rfl rfl (zI rfl rfl) ?_))))
    refine zg rfl rfl (jE rfl rfl rfl (by rw [jW, vM]) Tryz.underlying34) ?_
    refine zg rfl rfl (qi rfl rfl rfl) (zo (zf (zx rfl (fun h_1 => ?_) (fun h_1 => ?_))))
    ·
     have hli : i < L.length := by simp at h_1; omega
     have lb := zrg (ss := jy L p) i
     rw [vM] at lb
     refine zC (zf (zl (zB (zl (zh (zg rfl rfl (zn rfl rfl) (zo (zf (zl (zl (zh ?_)))))))))))
     refine zg rfl rfl (zn rfl rfl) (zo (zf (zB ?_)))
     refine qy (ι := { j : Nat // j <= L.length }) (fun j => ⟨Tryz.f45.ntmps, frL [(5, I ((lfK (jy L p) i : Nat) : Int)), (6, .psl 0 L.length), (8, I (i : Int)), (9, I ((((jy L p).take j.1).count ((jy L p).getD i []) : Nat) : Int)), (10, I (j.1 : Int))], [.row (zbh (jy L p))]⟩) (fun j => L.length - j.1) (⟨0, by omega⟩) ?_ ?_
     ·
      exact zt _ ⟨rfl, rfl, rfl, rfl, rfl, trivial⟩ (rfl)
     ·
      rintro ⟨j, hj⟩
      dsimp only
      refine zl (zl (zh (zg rfl rfl (zi rfl rfl) (zg rfl rfl (zI rfl rfl) ?_))))
      refine zg rfl rfl (jE rfl rfl rfl (by rw [jW, vM]) Tryz.underlying34) ?_
      refine zg rfl rfl (qi rfl rfl rfl) (zo (zf (zx rfl (fun h_2 => ?_) (fun h_2 => ?_))))
      ·
       have hlj : j < L.length := by simp at h_2; omega
       have hcs := zmA (ss := jy L p) (j := j) (by rw [vM]; exact hlj) ((jy L p).getD i [])
       have hcl : ((jy L p).take j).count ((jy L p).getD i []) <= ((jy L p).take j).length := List.count_le_length
       rw [List.length_take, vM] at hcl
       refine zC (zf (zl (zB (zl ?_))))
       refine qY mixed (by kernel_rfl) rfl ?_
       refine zH rfl (zI rfl rfl) (zH rfl (zi rfl rfl) ?_)
       refine zH rfl (qc rfl rfl rfl rfl (by rw [jW, vM]) yJ (by omega) (by omega) (xh _)) ?_
       refine zH rfl (zK (c := SL ((jy L p).getD j [])) rfl rfl rfl (by rw [jW, vM]) (xm (by rw [vM]; omega)) rfl ty9) ?_
       refine zH rfl (zI rfl rfl) (zH rfl (zi rfl rfl) ?_)
       refine zH rfl (qc rfl rfl rfl rfl (by rw [jW, vM]) yJ (by omega) (by omega) (xh _)) ?_
       refine zH rfl (zK (c := SL ((jy L p).getD i [])) rfl rfl rfl (by rw [jW, vM]) (xm (by rw [vM]; omega)) rfl ty9) ?_
       refine zH rfl (zof rfl rfl rfl) (jw (zf (zx rfl (fun h_3 => ?_) (fun h_3 => ?_))))
       ·
        have hb : (jy L p).getD j [] = (jy L p).getD i [] := by simpa using h_3
        rw [if_pos hb] at hcs
        refine zh (zg rfl rfl (zi rfl rfl) (zg rfl rfl (zV rfl rfl rfl ⟨(by omega), (by omega)⟩) (zg rfl rfl (zn rfl rfl) (zo (zD (zf (zh (zg rfl rfl (zi rfl rfl) (zg rfl rfl (zV rfl rfl rfl ⟨(by omega), (by omega)⟩) (zg rfl rfl (zn rfl rfl) (zo ?_)))))))))))
        exact ⟨⟨j + 1, by omega⟩, by dsimp only; omega, zt _ ⟨rfl, rfl, rfl, (congrArg I (by rw [hcs]; omega)), rfl, trivial⟩ (rfl)⟩
       ·
        have hb : ¬ (jy L p).getD j [] = (jy L p).getD i [] := by simpa using h_3
        rw [if_neg hb, Nat.add_zero] at hcs
        refine zC (zD (zf (zh (zg rfl rfl (zi rfl rfl) (zg rfl rfl (zV rfl rfl rfl ⟨(by omega), (by omega)⟩) (zg rfl rfl (zn rfl rfl) (zo ?_)))))))
        exact ⟨⟨j + 1, by omega⟩, by dsimp only; omega, zt _ ⟨rfl, rfl, rfl, (congrArg I (by rw [hcs]; omega)), rfl, trivial⟩ (rfl)⟩
      ·
       have hgj : L.length <= j := by simp at h_2; omega
       have hj2 : j = L.length := by omega
       refine qp (zL (zL (qw (zf (zh (zg rfl rfl (zi rfl rfl) (zg rfl rfl (zi rfl rfl) (zg rfl rfl (zq3 rfl rfl rfl) (zg rfl rfl (zn rfl rfl) (zo (zD ?_)))))))))))
       refine zf (zh (zg rfl rfl (zi rfl rfl) (zg rfl rfl (zV rfl rfl rfl ⟨(by omega), (by omega)⟩) (zg rfl rfl (zn rfl rfl) (zo ?_)))))
       exact ⟨⟨i + 1, by omega⟩, by dsimp only; omega, zt _ ⟨(congrArg I (show max ((lfK (jy L p) i : Nat) : Int) ((((jy L p).take j).count ((jy L p).getD i []) : Nat) : Int) = ((lfK (jy L p) (i + 1) : Nat) : Int) by rw [lfK, hj2, List.take_of_length_le (by rw [vM]; exact Nat.le_refl _)]; omega)), rfl, rfl, trivial⟩ (rfl)⟩
    ·
     have hgi : L.length <= i := by simp at h_1; omega
     have hi2 : i = L.length := by omega
     refine qp (zL (zL (qw (zf (zl (zh (zg rfl rfl (zi rfl rfl) (zg rfl rfl (zn rfl rfl) (zo (zf (zP ?_)))))))))))
     exact ⟨.inr rfl, AVle.of (by rw [hi2]; rfl)⟩
end Go.Av
end
