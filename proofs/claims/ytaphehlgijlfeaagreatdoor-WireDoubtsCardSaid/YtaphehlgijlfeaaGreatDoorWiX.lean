
import Derived.Test.YtaphehlgijlfeaaGreatDoorWiW
import Derived.Test.YtaphehlgijlfeaaGreatDoorPlatP
import Derived.Test.YtaphehlgijlfeaaGreatDoorWiM
set_option linter.unusedVariables false
set_option linter.unusedSimpArgs false
section
namespace Go.Av
open Go.Proofs
set_option maxRecDepth 100000
set_option maxHeartbeats 1000000
variable {G : Glob}
theorem xX : tyIs Tryz.prog 122 true 2 = true := by kernel_rfl
theorem wK : fldIs Tryz.prog 122 0 0 = true := by kernel_rfl
theorem jG : fldIs Tryz.prog 122 1 1 = true := by kernel_rfl
theorem zkY : xn Tryz.prog 122 [(0, 1), (1, 1)] [.slice none 0 0, .slice none 0 0] := ⟨_, Tryz.underlying122, by kernel_rfl, by kernel_rfl⟩
theorem zgT : (Tryz.prog.info? 122).bind (·.zero) = some (.agg #[.slice none 0 0, .slice none 0 0]) := by kernel_rfl
def prR (M : List Int) (n k : Nat) : List Int := M.take k ++ List.replicate (n - k) 0
theorem qC {M : List Int} {n k : Nat} (h : M.length = n) (hk : k <= n) : (prR M n k).length = n := by simp [prR]; omega
theorem zn1 (M : List Int) (n : Nat) : prR M n 0 = List.replicate n 0 := by simp [prR]
theorem zhZ {M : List Int} {n : Nat} (h : M.length = n) : prR M n n = M := by simp [prR, ← h]
theorem zc2 {M : List Int} {n k : Nat} (h : M.length = n) (hk : k < n) {y : Int} (hy : y = M[k]'(by omega)) : (prR M n k).set k y = prR M n (k + 1) := by
 subst hy
 unfold prR
 rw [List.set_append_right _ _ (by simp; omega), List.length_take, Nat.min_eq_left (by omega), Nat.sub_self]
 rw [show n - k = (n - (k + 1)) + 1 by omega, List.replicate_succ, List.set_cons_zero, List.take_succ_eq_append_getElem (show k < M.length by omega), List.append_assoc]
 rfl
theorem zoK {M : List Int} {n k j : Nat} (h : M.length = n) (hk : k <= n) (hj : j < k) : (prR M n k).getD j 0 = M.getD j 0 := by
 have e : (M.take k).length = k := by simp; omega
 simp only [prR, List.getD_eq_getElem?_getD, List.getElem?_append, List.getElem?_take, e, if_pos hj]
def jg (x : List Int × List Int) : List AV := [zO x.1, zO x.2]
theorem yB {a b : List Int} (h : b.length = a.length) : (jnR a b).length = a.length := by simp [jnR, h]
theorem jL {a b : List Int} (h : b.length = a.length) : (jnW a b).length = a.length := by simp [jnW, h]
theorem znY {a b : List Int} (h : b.length = a.length) {k : Nat} (hk : k < a.length) : (jnR a b)[k]'(by rw [yB h]; exact hk) = 10 * a[k] + b[k] := by simp [jnR]
theorem zo4 {a b : List Int} (h : b.length = a.length) {k : Nat} (hk : k < a.length) : (jnW a b)[k]'(by rw [jL h]; exact hk) = a[k] + b[k] := by simp [jnW]
theorem zaS (n : Nat) : List.replicate n [I 0] = qA (List.replicate n (0 : Int)) := by simp [qA]
theorem zq2 {a b : List Int × List Int} {m1 m2 : Nat} (e1 : m1 = a.1.length) (e2 : m2 = a.2.length) : [PO.row [[wZ, wZ]], .row (List.replicate m1 [I 0]), .row (List.replicate m2 [I 0]), .row [[.psl 1 m1, .psl 2 m2]]] = [.row [[wZ, wZ]], .row (qA (prR (jnR a.1 b.1) a.1.length 0)), .row (qA (prR (jnW a.2 b.2) a.2.length 0)), .row [[.psl 1 a.1.length, .psl 2 a.2.length]]] := by
 subst e1; subst e2; rw [zn1, zn1, zaS, zaS]
theorem getD_mem {l : List Int} {j : Nat} (h : j < l.length) : l.getD j 0 ∈ l := by simp [h]
theorem zpc (c : Cod) (a b : List Int × List Int) (h1 : b.1.length = a.1.length) (h2 : b.2.length = a.2.length) (h3 : 0 < a.1.length /\ a.1.length <= 1000) (h4 : 0 < a.2.length /\ a.2.length <= 1000) (hb1 : ∀ x ∈ a.1, 0 <= x /\ x <= 100000) (hb2 : ∀ x ∈ b.1, 0 <= x /\ x <= 100000) (hb3 : ∀ x ∈ a.2, 0 <= x /\ x <= 100000) (hb4 : ∀ x ∈ b.2, 0 <= x /\ x <= 100000) (hy : ∀ x ∈ jnW a.2 b.2, x <= c.most) : ACall Tryz.prog G 90 [.agg (qK c), .agg (jg a), .agg (jg b)] (.tup [.agg (jg (jnR a.1 b.1, jnW a.2 b.2)), .v (.bool true)]) := by
 refine zS Tryz.func90 rfl (by kernel_rfl) rfl ?_
 refine zl (zh (zg rfl rfl (jf rfl (zY rfl)) (zg rfl rfl (jf rfl (zY rfl)) (zg rfl rfl (jf rfl (zY rfl)) (jb rfl (wJ rfl rfl zgT rfl rfl) (zg rfl rfl (zn rfl rfl) (zo (zf (zl ?_)))))))))
 refine qx vz ?_
 refine qx vz ?_
 refine qx vz ?_
 refine wR (fun _ => True) (fun k => match k with | 0 => .stable | 1 => .stable | 2 => .stable | 3 => .own 1 | 4 => .stable | 5 => .stable | 6 => .stable | 7 => .own 2 | 8 => .rd [1, 2] | 9 => .own 3 | 10 => .writes | _ => .here) mixed (by kernel_rfl) rfl (by kernel_rfl) trivial ?_
 refine wo rfl rfl (fun m hm => zu rfl rfl wK) (wo rfl rfl (fun m hm => zA rfl rfl rfl jO) (wo rfl rfl (fun m hm => qh rfl rfl rfl Tryz.underlying23) ?_))
 refine zgb rfl rfl (zaH rfl rfl Tryz.underlying23 ti3 rfl rfl rfl (zs := [.int .i64 0]) rfl rfl rfl (by simp; omega) (by simp; omega) (by decide) rfl) ?_
 refine wo rfl rfl (fun m hm => zu rfl rfl jG) (wo rfl rfl (fun m hm => zA rfl rfl rfl jO) (wo rfl rfl (fun m hm => qh rfl rfl rfl Tryz.underlying23) ?_))
 refine zgb rfl rfl (zaH rfl rfl Tryz.underlying23 ti3 rfl rfl rfl (zs := [.int .i64 0]) rfl rfl rfl (by simp; omega) (by simp; omega) (by decide) rfl) ?_
 refine zkx [1, 2] rfl rfl (fun m hm hC => zfH (cs := [_, _]) rfl zkY rfl ⟨_, _, rfl, zbO rfl ((hm.one 1 rfl).trans rfl) (by simp), ⟨_, _, rfl, zbO rfl ((hm.one 2 rfl).trans rfl) (by simp), rfl⟩⟩ (by rfl) (by simp [ofV])) ?_
 refine zgb rfl rfl (zb1 rfl zgT rfl rfl rfl) ?_
 refine zaw rfl rfl (jk rfl rfl rfl rfl rfl rfl (zkN rfl) xX (by rfl) (by rfl)) trivial ?_
 refine wQ (zf (zl (zl (zh (zg rfl rfl (zn rfl rfl) (zo (zf (zB ?_))))))))
 refine qy (ι := { q : Nat // q <= a.1.length }) (fun q => ⟨Tryz.f90.ntmps, frL [(3, .pub (.ptr (qK c))), (4, .pub (.ptr (jg a))), (5, .pub (.ptr (jg b))), (6, .pp 0 1 0 0), (8, .pp 3 1 0 0), (9, I (q.1 : Int))], [.row [[wZ, wZ]], .row (qA (prR (jnR a.1 b.1) a.1.length q.1)), .row (qA (prR (jnW a.2 b.2) a.2.length 0)), .row [[.psl 1 a.1.length, .psl 2 a.2.length]]]⟩) (fun q => a.1.length - q.1) (⟨0, by omega⟩) ?_ ?_
 ·
  exact zt _ ⟨rfl, rfl, rfl, rfl, rfl, rfl, trivial⟩ (zq2 (by simp) (by simp))
 ·
  rintro ⟨q, hq⟩
  dsimp only
  refine zl (zl (zh (zg rfl rfl (zi rfl rfl) (zg rfl rfl (zu rfl rfl wK) (zg rfl rfl (zA rfl rfl rfl jO) (zg rfl rfl (qh rfl rfl rfl Tryz.underlying23) (zg rfl rfl (qi rfl rfl rfl) (zo (zf (zx rfl (fun h_0 => ?_) (fun h_0 => ?_)))))))))))
  ·
   have hlt : q < a.1.length := by simpa [zO] using h_0
   have hltb : q < b.1.length := by omega
   have v1 := hb1 _ (List.getElem_mem hlt)
   have v2 := hb2 _ (List.getElem_mem hltb)
   refine zC (zf (zl (zB ?_)))
   refine wR (fun _ => True) (fun k => match k with | 16 => .writes | _ => .here) mixed (by kernel_rfl) rfl (by kernel_rfl) trivial ?_
   refine zX rfl rfl (qE rfl rfl rfl rfl wK) (zX rfl rfl (zK rfl rfl rfl rfl rfl rfl jO) (zX rfl rfl (zi rfl rfl) (zX rfl rfl (zu rfl rfl wK) (zX rfl rfl (zA rfl rfl rfl jO) (zX rfl rfl (zi rfl rfl) (zX rfl rfl (zG rfl rfl rfl jv (by omega) (wu hlt) jC) (zX rfl rfl (zA rfl rfl rfl ty3) (zX rfl rfl (zcY rfl rfl rfl ⟨(by omega), (by omega)⟩) (zX rfl rfl (zu rfl rfl wK) (zX rfl rfl (zA rfl rfl rfl jO) (zX rfl rfl (zi rfl rfl) ?_)))))))))))
   refine zX rfl rfl (zG rfl rfl rfl jv (by omega) (wu hltb) jC) (zX rfl rfl (zA rfl rfl rfl ty3) (zX rfl rfl (zV rfl rfl rfl ⟨(by omega), (by omega)⟩) ?_))
   refine zX rfl rfl (qc rfl rfl rfl rfl (by rw [qm, qC (yB h1) (by omega)]) jv (by omega) (by omega) (jh _)) ?_
   refine zaw rfl rfl (jk (r := [I ((prR (jnR a.1 b.1) a.1.length q).getD q 0)]) rfl rfl rfl rfl (by rw [qm, qC (yB h1) (by omega)]) (wY (by rw [qC (yB h1) (by omega)]; omega)) (jF rfl) ty3 (by rfl) (by rfl)) trivial ?_
   refine wQ (zD (zf (zh (zg rfl rfl (zi rfl rfl) (zg rfl rfl (zV rfl rfl rfl ⟨(by omega), (by omega)⟩) (zg rfl rfl (zn rfl rfl) (zo ?_)))))))
   exact ⟨⟨q + 1, by omega⟩, by dsimp only; omega, zt _ ⟨rfl, rfl, rfl, rfl, rfl, rfl, trivial⟩ (congrArg (fun z => [PO.row [[wZ, wZ]], PO.row z, PO.row (qA (prR (jnW a.2 b.2) a.2.length 0)), PO.row [[.psl 1 a.1.length, .psl 2 a.2.length]]]) ((wW _ _ _ _).trans (congrArg qA (zc2 (yB h1) hlt (znY h1 hlt).symm))))⟩
  ·
   have hge : a.1.length <= q := by simpa [zO] using h_0
   have hq2 : q = a.1.length := by omega
   refine qp (zL (zL (qw (zf (zl (zl (zh (zg rfl rfl (zn rfl rfl) (zo (zf (zB ?_)))))))))))
   refine qy (ι := { r : Nat // r <= a.2.length /\ ∀ j, j < r -> (jnW a.2 b.2).getD j 0 <= c.most }) (fun r => ⟨Tryz.f90.ntmps, frL [(3, .pub (.ptr (qK c))), (4, .pub (.ptr (jg a))), (5, .pub (.ptr (jg b))), (6, .pp 0 1 0 0), (8, .pp 3 1 0 0), (10, I (r.1 : Int))], [.row [[wZ, wZ]], .row (qA (prR (jnR a.1 b.1) a.1.length a.1.length)), .row (qA (prR (jnW a.2 b.2) a.2.length r.1)), .row [[.psl 1 a.1.length, .psl 2 a.2.length]]]⟩) (fun r => a.2.length - r.1) (⟨0, by omega, fun j hj => absurd hj (by omega)⟩) ?_ ?_
   ·
    exact zt _ ⟨rfl, rfl, rfl, rfl, rfl, rfl, trivial⟩ ((by rw [hq2]))
   ·
    rintro ⟨r, hr⟩
    dsimp only
    refine zl (zl (zh (zg rfl rfl (zi rfl rfl) (zg rfl rfl (zu rfl rfl jG) (zg rfl rfl (zA rfl rfl rfl jO) (zg rfl rfl (qh rfl rfl rfl Tryz.underlying23) (zg rfl rfl (qi rfl rfl rfl) (zo (zf (zx rfl (fun h_1 => ?_) (fun h_1 => ?_)))))))))))
    ·
     have hlt : r < a.2.length := by simpa [zO] using h_1
     have hltb : r < b.2.length := by omega
     have v1 := hb3 _ (List.getElem_mem hlt)
     have v2 := hb4 _ (List.getElem_mem hltb)
     refine zC (zf (zl (zB (zl ?_))))
     refine wR (fun _ => True) (fun k => match k with | 15 => .writes | _ => .here) mixed (by kernel_rfl) rfl (by kernel_rfl) trivial ?_
     refine zX rfl rfl (qE rfl rfl rfl rfl jG) (zX rfl rfl (zK rfl rfl rfl rfl rfl rfl jO) (zX rfl rfl (zi rfl rfl) (zX rfl rfl (zu rfl rfl jG) (zX rfl rfl (zA rfl rfl rfl jO) (zX rfl rfl (zi rfl rfl) (zX rfl rfl (zG rfl rfl rfl jv (by omega) (wu hlt) jC) (zX rfl rfl (zA rfl rfl rfl ty3) (zX rfl rfl (zu rfl rfl jG) (zX rfl rfl (zA rfl rfl rfl jO) (zX rfl rfl (zi rfl rfl) (zX rfl rfl (zG rfl rfl rfl jv (by omega) (wu hltb) jC) ?_)))))))))))
     refine zX rfl rfl (zA rfl rfl rfl ty3) (zX rfl rfl (zV rfl rfl rfl ⟨(by omega), (by omega)⟩) ?_)
     refine zX rfl rfl (qc rfl rfl rfl rfl (by rw [qm, qC (jL h2) (by omega)]) jv (by omega) (by omega) (jh _)) ?_
     refine zaw rfl rfl (jk (r := [I ((prR (jnW a.2 b.2) a.2.length r).getD r 0)]) rfl rfl rfl rfl (by rw [qm, qC (jL h2) (by omega)]) (wY (by rw [qC (jL h2) (by omega)]; omega)) (jF rfl) ty3 (by rfl) (by rfl)) trivial ?_
     refine wQ (zf (zl ?_))
     refine qx (zt (mem' := [.row [[wZ, wZ]], .row (qA (prR (jnR a.1 b.1) a.1.length a.1.length)), .row (qA (prR (jnW a.2 b.2) a.2.length (r + 1))), .row [[.psl 1 a.1.length, .psl 2 a.2.length]]]) [(3, .pub (.ptr (qK c))), (4, .pub (.ptr (jg a))), (5, .pub (.ptr (jg b))), (6, .pp 0 1 0 0), (8, .pp 3 1 0 0), (10, I (r : Int))] ?_ ?_) ?_
     ·
      exact ⟨rfl, rfl, rfl, rfl, rfl, rfl, trivial⟩
     ·
      exact (congrArg (fun z => [PO.row [[wZ, wZ]], PO.row (qA (prR (jnR a.1 b.1) a.1.length a.1.length)), PO.row z, PO.row [[.psl 1 a.1.length, .psl 2 a.2.length]]]) ((wW _ _ _ _).trans (congrArg qA (zc2 (jL h2) hlt (zo4 h2 hlt).symm))))
     have hv := zoK (M := jnW a.2 b.2) (n := a.2.length) (k := r + 1) (j := r) (jL h2) (by omega) (by omega)
     refine qY mixed (by kernel_rfl) rfl ?_
     refine zH rfl (qE rfl rfl rfl rfl jG) (zH rfl (zK rfl rfl rfl rfl rfl rfl jO) (zH rfl (zi rfl rfl) ?_))
     refine zH rfl (qc rfl rfl rfl rfl (by rw [qm, qC (jL h2) (by omega)]) jv (by omega) (by omega) (jh _)) ?_
     refine zH rfl (zK (c := I ((prR (jnW a.2 b.2) a.2.length (r + 1)).getD r 0)) rfl rfl rfl (by rw [qm, qC (jL h2) (by omega)]) (wY (by rw [qC (jL h2) (by omega)]; omega)) rfl ty3) ?_
     refine zH rfl (zu rfl rfl jZ) (zH rfl (zA rfl rfl rfl ty3) (zH rfl (qR rfl rfl rfl) (jw (zf (zx rfl (fun h_2 => ?_) (fun h_2 => ?_))))))
     ·
      exfalso
      have := hy _ (getD_mem (l := jnW a.2 b.2) (j := r) (by rw [jL h2]; exact hlt))
      rw [hv] at h_2
      simp at h_2
      simp at this
      omega
     ·
      have hnx : ∀ j, j < r + 1 -> (jnW a.2 b.2).getD j 0 <= c.most := by
       intro j hj
       by_cases e : j = r
       ·
        rw [e, ← hv]; simpa using h_2
       ·
        exact hr.2 j (by omega)
      refine zC (zD (zf (zh (zg rfl rfl (zi rfl rfl) (zg rfl rfl (zV rfl rfl rfl ⟨(by omega), (by omega)⟩) (zg rfl rfl (zn rfl rfl) (zo ?_)))))))
      exact ⟨⟨r + 1, by omega, hnx⟩, by dsimp only; omega, zt _ ⟨rfl, rfl, rfl, rfl, rfl, rfl, trivial⟩ (rfl)⟩
    ·
     have hge : a.2.length <= r := by simpa [zO] using h_1
     have hr2 : r = a.2.length := by omega
     refine qp (zL (zL (qw (zf (zl ?_)))))
     refine qx (kY (k := 1) (m := a.1.length) (c := 3) (i := 0) (j := 0) (rows := (prR (jnR a.1 b.1) a.1.length a.1.length).map fun n => [AV.v (.int .i64 n)]) ?_ ?_ rfl rfl rfl rfl) ?_
     ·
      exact (congrArg (fun z => some (PO.row z)) (yK _))
     ·
      rw [List.length_map, qC (yB h1) (by omega)]
     refine qx (kY (k := 2) (m := a.2.length) (c := 3) (i := 0) (j := 1) (rows := (prR (jnW a.2 b.2) a.2.length r).map fun n => [AV.v (.int .i64 n)]) ?_ ?_ rfl rfl rfl rfl) ?_
     ·
      exact (congrArg (fun z => some (PO.row z)) (yK _))
     ·
      rw [List.length_map, qC (jL h2) (by omega)]
     refine zh (zg rfl rfl (qN (cs := [_, _]) rfl rfl rfl rfl rfl (by exact zLb rfl) rfl xX) ?_)
     refine jb rfl (qG rfl rfl rfl rfl rfl rfl (zY rfl) xX (by rfl) (by exact zLb rfl)) ?_
     refine zg rfl rfl (zn rfl rfl) (zo (zf (zP ?_)))
     exact ⟨.inr rfl, ⟨_, rfl, ⟨_, _, rfl, (jK rfl rfl rfl rfl xX rfl ⟨_, _, rfl, AVle.of (by rw [zhZ (yB h1)]; rfl), ⟨_, _, rfl, AVle.of (by rw [hr2, zhZ (jL h2)]; rfl), rfl⟩⟩), ⟨_, _, rfl, AVle.refl _, rfl⟩⟩⟩⟩
theorem zrz (c : Cod) (a b : List Int × List Int) (h1 : b.1.length = a.1.length) (h2 : b.2.length = a.2.length) (h3 : 0 < a.1.length /\ a.1.length <= 1000) (h4 : 0 < a.2.length /\ a.2.length <= 1000) (hb1 : ∀ x ∈ a.1, 0 <= x /\ x <= 100000) (hb2 : ∀ x ∈ b.1, 0 <= x /\ x <= 100000) (hb3 : ∀ x ∈ a.2, 0 <= x /\ x <= 100000) (hb4 : ∀ x ∈ b.2, 0 <= x /\ x <= 100000) (hn : ¬ ∀ x ∈ jnW a.2 b.2, x <= c.most) : ACall Tryz.prog G 90 [.agg (qK c), .agg (jg a), .agg (jg b)] (.tup [.agg [.top, .top], .v (.bool false)]) := by
 refine zS Tryz.func90 rfl (by kernel_rfl) rfl ?_
 refine zl (zh (zg rfl rfl (jf rfl (zY rfl)) (zg rfl rfl (jf rfl (zY rfl)) (zg rfl rfl (jf rfl (zY rfl)) (jb rfl (wJ rfl rfl zgT rfl rfl) (zg rfl rfl (zn rfl rfl) (zo (zf (zl ?_)))))))))
 refine qx vz ?_
 refine qx vz ?_
 refine qx vz ?_
 refine wR (fun _ => True) (fun k => match k with | 0 => .stable | 1 => .stable | 2 => .stable | 3 => .own 1 | 4 => .stable | 5 => .stable | 6 => .stable | 7 => .own 2 | 8 => .rd [1, 2] | 9 => .own 3 | 10 => .writes | _ => .here) mixed (by kernel_rfl) rfl (by kernel_rfl) trivial ?_
 refine wo rfl rfl (fun m hm => zu rfl rfl wK) (wo rfl rfl (fun m hm => zA rfl rfl rfl jO) (wo rfl rfl (fun m hm => qh rfl rfl rfl Tryz.underlying23) ?_))
 refine zgb rfl rfl (zaH rfl rfl Tryz.underlying23 ti3 rfl rfl rfl (zs := [.int .i64 0]) rfl rfl rfl (by simp; omega) (by simp; omega) (by decide) rfl) ?_
 refine wo rfl rfl (fun m hm => zu rfl rfl jG) (wo rfl rfl (fun m hm => zA rfl rfl rfl jO) (wo rfl rfl (fun m hm => qh rfl rfl rfl Tryz.underlying23) ?_))
 refine zgb rfl rfl (zaH rfl rfl Tryz.underlying23 ti3 rfl rfl rfl (zs := [.int .i64 0]) rfl rfl rfl (by simp; omega) (by simp; omega) (by decide) rfl) ?_
 refine zkx [1, 2] rfl rfl (fun m hm hC => zfH (cs := [_, _]) rfl zkY rfl ⟨_, _, rfl, zbO rfl ((hm.one 1 rfl).trans rfl) (by simp), ⟨_, _, rfl, zbO rfl ((hm.one 2 rfl).trans rfl) (by simp), rfl⟩⟩ (by rfl) (by simp [ofV])) ?_
 refine zgb rfl rfl (zb1 rfl zgT rfl rfl rfl) ?_
 refine zaw rfl rfl (jk rfl rfl rfl rfl rfl rfl (zkN rfl) xX (by rfl) (by rfl)) trivial ?_
 refine wQ (zf (zl (zl (zh (zg rfl rfl (zn rfl rfl) (zo (zf (zB ?_))))))))
 refine qy (ι := { q : Nat // q <= a.1.length }) (fun q => ⟨Tryz.f90.ntmps, frL [(3, .pub (.ptr (qK c))), (4, .pub (.ptr (jg a))), (5, .pub (.ptr (jg b))), (6, .pp 0 1 0 0), (8, .pp 3 1 0 0), (9, I (q.1 : Int))], [.row [[wZ, wZ]], .row (qA (prR (jnR a.1 b.1) a.1.length q.1)), .row (qA (prR (jnW a.2 b.2) a.2.length 0)), .row [[.psl 1 a.1.length, .psl 2 a.2.length]]]⟩) (fun q => a.1.length - q.1) (⟨0, by omega⟩) ?_ ?_
 ·
  exact zt _ ⟨rfl, rfl, rfl, rfl, rfl, rfl, trivial⟩ (zq2 (by simp) (by simp))
 ·
  rintro ⟨q, hq⟩
  dsimp only
  refine zl (zl (zh (zg rfl rfl (zi rfl rfl) (zg rfl rfl (zu rfl rfl wK) (zg rfl rfl (zA rfl rfl rfl jO) (zg rfl rfl (qh rfl rfl rfl Tryz.underlying23) (zg rfl rfl (qi rfl rfl rfl) (zo (zf (zx rfl (fun h_0 => ?_) (fun h_0 => ?_)))))))))))
  ·
   have hlt : q < a.1.length := by simpa [zO] using h_0
   have hltb : q < b.1.length := by omega
   have v1 := hb1 _ (List.getElem_mem hlt)
   have v2 := hb2 _ (List.getElem_mem hltb)
   refine zC (zf (zl (zB ?_)))
   refine wR (fun _ => True) (fun k => match k with | 16 => .writes | _ => .here) mixed (by kernel_rfl) rfl (by kernel_rfl) trivial ?_
   refine zX rfl rfl (qE rfl rfl rfl rfl wK) (zX rfl rfl (zK rfl rfl rfl rfl rfl rfl jO) (zX rfl rfl (zi rfl rfl) (zX rfl rfl (zu rfl rfl wK) (zX rfl rfl (zA rfl rfl rfl jO) (zX rfl rfl (zi rfl rfl) (zX rfl rfl (zG rfl rfl rfl jv (by omega) (wu hlt) jC) (zX rfl rfl (zA rfl rfl rfl ty3) (zX rfl rfl (zcY rfl rfl rfl ⟨(by omega), (by omega)⟩) (zX rfl rfl (zu rfl rfl wK) (zX rfl rfl (zA rfl rfl rfl jO) (zX rfl rfl (zi rfl rfl) ?_)))))))))))
   refine zX rfl rfl (zG rfl rfl rfl jv (by omega) (wu hltb) jC) (zX rfl rfl (zA rfl rfl rfl ty3) (zX rfl rfl (zV rfl rfl rfl ⟨(by omega), (by omega)⟩) ?_))
   refine zX rfl rfl (qc rfl rfl rfl rfl (by rw [qm, qC (yB h1) (by omega)]) jv (by omega) (by omega) (jh _)) ?_
   refine zaw rfl rfl (jk (r := [I ((prR (jnR a.1 b.1) a.1.length q).getD q 0)]) rfl rfl rfl rfl (by rw [qm, qC (yB h1) (by omega)]) (wY (by rw [qC (yB h1) (by omega)]; omega)) (jF rfl) ty3 (by rfl) (by rfl)) trivial ?_
   refine wQ (zD (zf (zh (zg rfl rfl (zi rfl rfl) (zg rfl rfl (zV rfl rfl rfl ⟨(by omega), (by omega)⟩) (zg rfl rfl (zn rfl rfl) (zo ?_)))))))
   exact ⟨⟨q + 1, by omega⟩, by dsimp only; omega, zt _ ⟨rfl, rfl, rfl, rfl, rfl, rfl, trivial⟩ (congrArg (fun z => [PO.row [[wZ, wZ]], PO.row z, PO.row (qA (prR (jnW a.2 b.2) a.2.length 0)), PO.row [[.psl 1 a.1.length, .psl 2 a.2.length]]]) ((wW _ _ _ _).trans (congrArg qA (zc2 (yB h1) hlt (znY h1 hlt).symm))))⟩
  ·
   have hge : a.1.length <= q := by simpa [zO] using h_0
   have hq2 : q = a.1.length := by omega
   refine qp (zL (zL (qw (zf (zl (zl (zh (zg rfl rfl (zn rfl rfl) (zo (zf (zB ?_)))))))))))
   refine qy (ι := { r : Nat // r <= a.2.length /\ ∀ j, j < r -> (jnW a.2 b.2).getD j 0 <= c.most }) (fun r => ⟨Tryz.f90.ntmps, frL [(3, .pub (.ptr (qK c))), (4, .pub (.ptr (jg a))), (5, .pub (.ptr (jg b))), (6, .pp 0 1 0 0), (8, .pp 3 1 0 0), (10, I (r.1 : Int))], [.row [[wZ, wZ]], .row (qA (prR (jnR a.1 b.1) a.1.length a.1.length)), .row (qA (prR (jnW a.2 b.2) a.2.length r.1)), .row [[.psl 1 a.1.length, .psl 2 a.2.length]]]⟩) (fun r => a.2.length - r.1) (⟨0, by omega, fun j hj => absurd hj (by omega)⟩) ?_ ?_
   ·
    exact zt _ ⟨rfl, rfl, rfl, rfl, rfl, rfl, trivial⟩ ((by rw [hq2]))
   ·
    rintro ⟨r, hr⟩
    dsimp only
    refine zl (zl (zh (zg rfl rfl (zi rfl rfl) (zg rfl rfl (zu rfl rfl jG) (zg rfl rfl (zA rfl rfl rfl jO) (zg rfl rfl (qh rfl rfl rfl Tryz.underlying23) (zg rfl rfl (qi rfl rfl rfl) (zo (zf (zx rfl (fun h_1 => ?_) (fun h_1 => ?_)))))))))))
    ·
     have hlt : r < a.2.length := by simpa [zO] using h_1
     have hltb : r < b.2.length := by omega
     have v1 := hb3 _ (List.getElem_mem hlt)
     have v2 := hb4 _ (List.getElem_mem hltb)
     refine zC (zf (zl (zB (zl ?_))))
     refine wR (fun _ => True) (fun k => match k with | 15 => .writes | _ => .here) mixed (by kernel_rfl) rfl (by kernel_rfl) trivial ?_
     refine zX rfl rfl (qE rfl rfl rfl rfl jG) (zX rfl rfl (zK rfl rfl rfl rfl rfl rfl jO) (zX rfl rfl (zi rfl rfl) (zX rfl rfl (zu rfl rfl jG) (zX rfl rfl (zA rfl rfl rfl jO) (zX rfl rfl (zi rfl rfl) (zX rfl rfl (zG rfl rfl rfl jv (by omega) (wu hlt) jC) (zX rfl rfl (zA rfl rfl rfl ty3) (zX rfl rfl (zu rfl rfl jG) (zX rfl rfl (zA rfl rfl rfl jO) (zX rfl rfl (zi rfl rfl) (zX rfl rfl (zG rfl rfl rfl jv (by omega) (wu hltb) jC) ?_)))))))))))
     refine zX rfl rfl (zA rfl rfl rfl ty3) (zX rfl rfl (zV rfl rfl rfl ⟨(by omega), (by omega)⟩) ?_)
     refine zX rfl rfl (qc rfl rfl rfl rfl (by rw [qm, qC (jL h2) (by omega)]) jv (by omega) (by omega) (jh _)) ?_
     refine zaw rfl rfl (jk (r := [I ((prR (jnW a.2 b.2) a.2.length r).getD r 0)]) rfl rfl rfl rfl (by rw [qm, qC (jL h2) (by omega)]) (wY (by rw [qC (jL h2) (by omega)]; omega)) (jF rfl) ty3 (by rfl) (by rfl)) trivial ?_
     refine wQ (zf (zl ?_))
     refine qx (zt (mem' := [.row [[wZ, wZ]], .row (qA (prR (jnR a.1 b.1) a.1.length a.1.length)), .row (qA (prR (jnW a.2 b.2) a.2.length (r + 1))), .row [[.psl 1 a.1.length, .psl 2 a.2.length]]]) [(3, .pub (.ptr (qK c))), (4, .pub (.ptr (jg a))), (5, .pub (.ptr (jg b))), (6, .pp 0 1 0 0), (8, .pp 3 1 0 0), (10, I (r : Int))] ?_ ?_) ?_
     ·
      exact ⟨rfl, rfl, rfl, rfl, rfl, rfl, trivial⟩
     ·
      exact (congrArg (fun z => [PO.row [[wZ, wZ]], PO.row (qA (prR (jnR a.1 b.1) a.1.length a.1.length)), PO.row z, PO.row [[.psl 1 a.1.length, .psl 2 a.2.length]]]) ((wW _ _ _ _).trans (congrArg qA (zc2 (jL h2) hlt (zo4 h2 hlt).symm))))
     have hv := zoK (M := jnW a.2 b.2) (n := a.2.length) (k := r + 1) (j := r) (jL h2) (by omega) (by omega)
     refine qY mixed (by kernel_rfl) rfl ?_
     refine zH rfl (qE rfl rfl rfl rfl jG) (zH rfl (zK rfl rfl rfl rfl rfl rfl jO) (zH rfl (zi rfl rfl) ?_))
     refine zH rfl (qc rfl rfl rfl rfl (by rw [qm, qC (jL h2) (by omega)]) jv (by omega) (by omega) (jh _)) ?_
     refine zH rfl (zK (c := I ((prR (jnW a.2 b.2) a.2.length (r + 1)).getD r 0)) rfl rfl rfl (by rw [qm, qC (jL h2) (by omega)]) (wY (by rw [qC (jL h2) (by omega)]; omega)) rfl ty3) ?_
     refine zH rfl (zu rfl rfl jZ) (zH rfl (zA rfl rfl rfl ty3) (zH rfl (qR rfl rfl rfl) (jw (zf (zx rfl (fun h_2 => ?_) (fun h_2 => ?_))))))
     ·
      refine zl ?_
      refine qx (kY (k := 1) (m := a.1.length) (c := 3) (i := 0) (j := 0) (rows := (prR (jnR a.1 b.1) a.1.length a.1.length).map fun n => [AV.v (.int .i64 n)]) ?_ ?_ rfl rfl rfl rfl) ?_
      ·
       exact (congrArg (fun z => some (PO.row z)) (yK _))
      ·
       rw [List.length_map, qC (yB h1) (by omega)]
      refine qx (kY (k := 2) (m := a.2.length) (c := 3) (i := 0) (j := 1) (rows := (prR (jnW a.2 b.2) a.2.length (r + 1)).map fun n => [AV.v (.int .i64 n)]) ?_ ?_ rfl rfl rfl rfl) ?_
      ·
       exact (congrArg (fun z => some (PO.row z)) (yK _))
      ·
       rw [List.length_map, qC (jL h2) (by omega)]
      refine zh (zg rfl rfl (qN (cs := [_, _]) rfl rfl rfl rfl rfl (by exact zLb rfl) rfl xX) ?_)
      refine jb rfl (qG rfl rfl rfl rfl rfl rfl (zY rfl) xX (by rfl) (by exact zLb rfl)) ?_
      refine zg rfl rfl (zn rfl rfl) (zo (zf (zP (qF (zQ (zQ (qF (zQ ?_))))))))
      exact ⟨.inr rfl, ⟨_, rfl, ⟨_, _, rfl, (jK rfl rfl rfl rfl xX rfl ⟨_, _, rfl, AVle.top _, ⟨_, _, rfl, AVle.top _, rfl⟩⟩), ⟨_, _, rfl, AVle.refl _, rfl⟩⟩⟩⟩
     ·
      have hnx : ∀ j, j < r + 1 -> (jnW a.2 b.2).getD j 0 <= c.most := by
       intro j hj
       by_cases e : j = r
       ·
        rw [e, ← hv]; simpa using h_2
       ·
        exact hr.2 j (by omega)
      refine zC (zD (zf (zh (zg rfl rfl (zi rfl rfl) (zg rfl rfl (zV rfl rfl rfl ⟨(by omega), (by omega)⟩) (zg rfl rfl (zn rfl rfl) (zo ?_)))))))
      exact ⟨⟨r + 1, by omega, hnx⟩, by dsimp only; omega, zt _ ⟨rfl, rfl, rfl, rfl, rfl, rfl, trivial⟩ (rfl)⟩
    ·
     have hge : a.2.length <= r := by simpa [zO] using h_1
     have hr2 : r = a.2.length := by omega
     exfalso
     apply hn
     intro x hx
     obtain ⟨j, hj, rfl⟩ := List.getElem_of_mem hx
     rw [jL h2] at hj
     have := hr.2 j (by omega)
     simpa [jL h2, hj] using this
end Go.Av
end
section
namespace Go.Av
open Go.Proofs
def rdJ (K n j : Nat) : List Int := (List.range K).map fun p => if K <= p + j then (n : Int) / (10 ^ (K - 1 - p) : Nat) % 10 else 0
theorem zhf (K n j : Nat) : (rdJ K n j).length = K := by simp [rdJ]
theorem zsk (K n : Nat) : rdJ K n 0 = List.replicate K 0 := by
 unfold rdJ
 refine List.ext_getElem (by simp) fun i h1 h2 => ?_
 have : i < K := by simpa using h1
 simp; omega
theorem zsQ (K n : Nat) : rdJ K n K = ql K n := by
 unfold rdJ ql
 refine List.map_congr_left fun p hp => ?_
 rw [if_pos (by omega)]
theorem zqF {K n j : Nat} (h : j < K) : (rdJ K n j).set (K - 1 - j) ((n : Int) / (10 ^ j : Nat) % 10) = rdJ K n (j + 1) := by
 unfold rdJ
 refine List.ext_getElem (by simp) fun i h1 h2 => ?_
 have hi : i < K := by simpa using h1
 rw [List.getElem_set]
 simp only [List.getElem_map, List.getElem_range]
 by_cases e : K - 1 - j = i
 ·
  subst e
  rw [if_pos rfl, if_pos (by omega), show K - 1 - (K - 1 - j) = j by omega]
 ·
  rw [if_neg e]
  by_cases e2 : K <= i + j
  ·
   rw [if_pos e2, if_pos (by omega)]
  ·
   rw [if_neg e2, if_neg (by omega)]
def smJ (n j : Nat) : Int := jB j (fun p => (n : Int) / (10 ^ p : Nat) % 10)
theorem zm9 (n j : Nat) : 0 <= smJ n j /\ smJ n j <= 9 * j := by
 unfold smJ
 induction j with
 | zero => simp [jB]
 | succ j ih => simp only [jB]; omega
theorem zpo {K n : Nat} (h : 1 <= K /\ K <= 3) : smJ n K = zjh (ql K n) := by
 have : K = 1 ∨ K = 2 ∨ K = 3 := by omega
 rcases this with rfl | rfl | rfl
 ·
  simp [smJ, jB, ql, zjh, List.range_succ]
 ·
  simp [smJ, jB, ql, zjh, List.range_succ]; omega
 ·
  simp [smJ, jB, ql, zjh, List.range_succ]; omega
theorem zp4 (n j : Nat) : (n : Int) / (10 ^ j : Nat) / 10 = (n : Int) / (10 ^ (j + 1) : Nat) := by
 show ((n / 10 ^ j / 10 : Nat) : Int) = ((n / 10 ^ (j + 1) : Nat) : Int)
 rw [Nat.div_div_eq_div_mul, Nat.pow_succ]
theorem zse (n j : Nat) : 0 <= (n : Int) / (10 ^ j : Nat) /\ (n : Int) / (10 ^ j : Nat) <= n := by
 constructor
 ·
  exact Int.natCast_nonneg (n / 10 ^ j)
 ·
  exact Int.ofNat_le.2 (Nat.div_le_self n (10 ^ j))
theorem zlI {K n i : Nat} : 0 <= vF (ql K n) i /\ vF (ql K n) i <= 9 := by
 unfold vF
 split
 ·
  exact zeu K n _ (List.getElem_mem _)
 ·
  omega
theorem zpw {K n i : Nat} (h : i < K) : (ql K n).getD i 0 = vF (ql K n) i := by
 unfold vF; rw [dif_pos (by rw [vk]; exact h)]; simp [vk, h]
theorem zqw {K n i : Nat} (hK : 1 <= K /\ K <= 3) (h : K <= i) : smJ n K % 10 = vF (ql K n) i := by
 unfold vF; rw [dif_neg (by rw [vk]; omega), zpo hK]
def wsK (g : List (List UInt8)) (place : Nat) (ds : List Int) (i : Nat) : Int := jB i (fun j => wrN (chF g j place, vF ds j))
def okK (c : Cod) (g : List (List UInt8)) (place : Nat) (ds : List Int) (i : Nat) : Bool := (List.range i).all fun j => okP c (chF g j place, vF ds j)
theorem zc4 (c : Cod) (g : List (List UInt8)) (place : Nat) (ds : List Int) (i : Nat) : okK c g place ds (i + 1) = (okK c g place ds i && okP c (chF g i place, vF ds i)) := by simp [okK, List.range_succ]
theorem zkG (g : List (List UInt8)) (place : Nat) (ds : List Int) (i : Nat) : 0 <= wsK g place ds i /\ wsK g place ds i <= i := by
 unfold wsK
 induction i with
 | zero => simp [jB]
 | succ i ih => have := zbv (chF g i place, vF ds i); simp only [jB]; omega
def fnK (c : Cod) (l : List (List (List UInt8))) (place : Nat) (ds : List Int) (k : Nat) : Bool := (l.take k).all fun g => zfW c g place ds && decide (zbu g place ds <= c.most)
theorem zng {c : Cod} {l : List (List (List UInt8))} {place : Nat} {ds : List Int} {k : Nat} (h : k < l.length) : fnK c l place ds (k + 1) = (fnK c l place ds k && (zfW c l[k] place ds && decide (zbu l[k] place ds <= c.most))) := by
 unfold fnK; rw [List.take_succ_eq_append_getElem h, List.all_append]; simp
theorem zlA {c : Cod} {l : List (List (List UInt8))} {place : Nat} {ds : List Int} {k : Nat} (h : l.length <= k) : fnK c l place ds k = zdv c l place ds := by
 unfold fnK zdv; rw [List.take_of_length_le h]
theorem zp3 {c : Cod} {g : List (List UInt8)} {place K n : Nat} : okK c g place (ql K n) (K + 1) = zfW c g place (ql K n) := by unfold okK zfW; rw [vk]
theorem zen {g : List (List UInt8)} {place K n : Nat} : wsK g place (ql K n) (K + 1) = zbu g place (ql K n) := by unfold wsK zbu; rw [vk]
theorem qL (l : List (List (List UInt8))) (place : Nat) (ds : List Int) : (vX l place ds).length = l.length := by simp [vX]
theorem zpD {l : List (List (List UInt8))} {place : Nat} {ds : List Int} {k : Nat} (h : k < l.length) : (vX l place ds)[k]'(by rw [qL]; exact h) = zbu l[k] place ds := by simp [vX]
def jV (c : Cod) (l : List (List (List UInt8))) (place n : Nat) : List (List Int × List Int) := ((List.range n).filter fun n => zdv c l place (ql c.fields.length n)).map fun n => (ql c.fields.length n, vX l place (ql c.fields.length n))
theorem zdg (c : Cod) (l : List (List (List UInt8))) (place : Nat) : jV c l place (10 ^ c.fields.length) = jl c l place := rfl
theorem zoP {c : Cod} {l : List (List (List UInt8))} {place n : Nat} (h : zdv c l place (ql c.fields.length n) = true) : jV c l place (n + 1) = jV c l place n ++ [(ql c.fields.length n, vX l place (ql c.fields.length n))] := by
 unfold jV; rw [List.range_succ, List.filter_append, List.map_append]; simp [h]
theorem zpx {c : Cod} {l : List (List (List UInt8))} {place n : Nat} (h : zdv c l place (ql c.fields.length n) = false) : jV c l place (n + 1) = jV c l place n := by
 unfold jV; rw [List.range_succ, List.filter_append, List.map_append]; simp [h]
theorem zcR (c : Cod) (l : List (List (List UInt8))) (place n : Nat) : (jV c l place n).length <= n := by
 unfold jV; rw [List.length_map]; exact Nat.le_trans (List.length_filter_le ..) (by simp)
def jo (X : List (List Int × List Int)) : List (List EV) := X.map fun x => [EV.pub (zO x.1), EV.pub (zO x.2)]
theorem zgN (X : List (List Int × List Int)) : jo X = (X.map jg).map (·.map .pub) := by simp [jo, jg]
theorem zgX (X : List (List Int × List Int)) : (jo X).length = X.length := by simp [jo]
theorem zgu (X : List (List Int × List Int)) : ∀ q ∈ jo X, q.length = 2 := fun q hq => by obtain ⟨x, _, rfl⟩ := List.mem_map.1 hq; rfl
theorem zft (X : List (List Int × List Int)) (a b : List Int) : jo X ++ [[EV.pub (zO a), EV.pub (zO b)]] = jo (X ++ [(a, b)]) := by simp [jo]
theorem zka {K : Nat} (h : K <= 3) : 10 ^ K <= 1000 := by
 have : K = 0 ∨ K = 1 ∨ K = 2 ∨ K = 3 := by omega
 rcases this with rfl | rfl | rfl | rfl <;> decide
end Go.Av
end
