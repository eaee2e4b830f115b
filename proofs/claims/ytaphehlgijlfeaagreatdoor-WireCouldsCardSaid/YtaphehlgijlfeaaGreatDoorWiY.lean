
import Derived.Test.YtaphehlgijlfeaaGreatDoorWiW
import Derived.Test.YtaphehlgijlfeaaGreatDoorPlatN
import Derived.Test.YtaphehlgijlfeaaGreatDoorWiQ
set_option linter.unusedVariables false
set_option linter.unusedSimpArgs false
section
namespace Go.Av
open Go.Proofs
set_option maxRecDepth 100000
set_option maxHeartbeats 1000000
variable {G : Glob}
theorem zq6 : elemIs Tryz.prog 123 122 2 48 := ⟨Tryz.underlying123, Tryz.t122, _, by kernel_rfl, rfl, rfl, rfl, rfl, by decide⟩
theorem znT : Tryz.prog.info? 122 = some Tryz.t122 := by kernel_rfl
theorem ifp {α : Type} {c : Prop} [Decidable c] {a b : α} (h : c) : (if c then a else b) = a := if_pos h
theorem zlQ {l : List (List (List UInt8))} {k : Nat} (h : k < l.length) : (l.map fun g => [jD g])[k]? = some [jD (l.getD k [])] := by simp [h]
theorem zk9 {g : List (List UInt8)} {k : Nat} (h : k < g.length) : (g.map fun s => [eS s])[k]? = some [eS (g.getD k [])] := by simp [h]
theorem zjB {w : List UInt8} {k : Nat} (h : k < w.length) : w[k]? = some (w.getD k 0) := by simp [h]
theorem znW {M : List Int} {n k : Nat} (h : M.length = n) (hk : k < n) : (prR M n k).set k 0 = prR M n k := by
 unfold prR
 rw [List.set_append_right _ _ (by simp; omega), List.length_take, Nat.min_eq_left (by omega), Nat.sub_self]
 rw [show n - k = (n - (k + 1)) + 1 by omega, List.replicate_succ, List.set_cons_zero]
theorem kW {X : List Int} {k : Nat} {w : Int} (h : k < X.length) : (qA (X.set k w))[k]? = some [I w] := by simp [qA, h]
theorem zst {X : List (List EV)} {K L n m1 m2 : Nat} (e1 : m1 = K) (e2 : m2 = L) : [PO.row X, .row (List.replicate m1 [I 0]), .row (List.replicate m2 [I 0]), .row [[.psl 1 m1, .psl 2 m2]]] = [PO.row X, .row (qA (rdJ K n 0)), .row (qA (List.replicate L 0)), .row [[.psl 1 K, .psl 2 L]]] := by
 subst e1; subst e2; rw [zsk, zaS, zaS]
theorem toN {K j : Nat} (h : j < K) : ((K : Int) - 1 - (j : Int)).toNat = K - 1 - j := by omega
theorem kD {k : Nat} (X : List (List Int × List Int)) : PO.okL k (.row (jo X)) := fun r hr x hx => by
 obtain ⟨q, _, rfl⟩ := List.mem_map.1 hr
 simp at hx
 rcases hx with rfl | rfl <;> trivial
theorem getD_in {l : List (List (List UInt8))} {k : Nat} (h : k < l.length) : l.getD k [] ∈ l /\ l.getD k [] = l[k] := by
 have e : l.getD k [] = l[k] := by simp [h]
 exact ⟨e ▸ List.getElem_mem h, e⟩
theorem f89 (c : Cod) (l : List (List (List UInt8))) (p : Nat) (hc : jA c = true) (hl : l.length <= 3) (hl0 : 0 < l.length) (hcp : ∀ g ∈ l, jX c g = true) (hp : p < 5) : ACall Tryz.prog G 89 [.agg (qK c), qO l, ei (p : Int)] (.sl ((jl c l p).map jg)) := by
 have hcb := wI hc
 have hpK := zka hcb.1.2
 refine zS Tryz.func89 rfl (by kernel_rfl) rfl ?_
 refine zl (zh (zg rfl rfl (jf rfl (zY rfl)) (zg rfl rfl (zn rfl rfl) (zo (zf (zl (zh (zg rfl rfl (zn rfl rfl) (zo (zf (zl ?_)))))))))))
 refine zl (zh (zg rfl rfl (zn rfl rfl) (zo (zf (zB ?_)))))
 refine qy (ι := { k : Nat // k <= c.fields.length }) (fun k => ⟨Tryz.f89.ntmps, frL [(1, .pub (qO l)), (2, I (p : Int)), (3, .pub (.ptr (qK c))), (7, I ((10 ^ k.1 : Nat) : Int)), (8, I (k.1 : Int))], []⟩) (fun k => c.fields.length - k.1) (⟨0, by omega⟩) ?_ ?_
 ·
  exact zt _ ⟨rfl, rfl, rfl, rfl, rfl, trivial⟩ (rfl)
 ·
  rintro ⟨k, hk⟩
  dsimp only
  refine zl (zl (zh (zg rfl rfl (zi rfl rfl) (zg rfl rfl (zu rfl rfl jS) (zg rfl rfl (zA rfl rfl rfl zah) (zg rfl rfl (qh rfl rfl rfl Tryz.underlying22) (zg rfl rfl (qi rfl rfl rfl) (zo (zf (zx rfl (fun h_0 => ?_) (fun h_0 => ?_)))))))))))
  ·
   have hlt : k < c.fields.length := by simpa using h_0
   have hpw := zka (K := k) (by omega)
   have hpz : (0 : Int) <= ((10 ^ k : Nat) : Int) /\ ((10 ^ k : Nat) : Int) <= 1000 := ⟨Int.natCast_nonneg _, Int.ofNat_le.2 hpw⟩
   refine zC (zf (zl (zB (zh (zg rfl rfl (zi rfl rfl) (zg rfl rfl (zcY rfl rfl rfl ⟨Int.le_trans (by omega) (Int.mul_nonneg (by omega) hpz.1), Int.le_trans (Int.mul_le_mul_of_nonneg_left hpz.2 (by omega)) (by omega)⟩) (zg rfl rfl (zn rfl rfl) (zo (zD (zf (zh ?_)))))))))))
   refine zg rfl rfl (zi rfl rfl) (zg rfl rfl (zV rfl rfl rfl ⟨(by omega), (by omega)⟩) (zg rfl rfl (zn rfl rfl) (zo ?_)))
   exact ⟨⟨k + 1, by omega⟩, by dsimp only; omega, zt _ ⟨rfl, rfl, rfl, (congrArg I (by rw [Nat.pow_succ]; omega)), rfl, trivial⟩ (rfl)⟩
  ·
   have hge : c.fields.length <= k := by simpa using h_0
   have hk2 : k = c.fields.length := by omega
   refine qp (zL (zL (qw (zf (zl (zh (zg rfl rfl (zn rfl rfl) (zo (zf (zl (zl ?_)))))))))))
   refine zh (zg rfl rfl (zn rfl rfl) (zo (zf (zB ?_))))
   refine qx (kG 9 rfl) ?_
   refine qy (ι := { n : Nat // n <= 10 ^ c.fields.length }) (fun n => ⟨Tryz.f89.ntmps, frL [(1, .pub (qO l)), (2, I (p : Int)), (3, .pub (.ptr (qK c))), (7, I ((10 ^ c.fields.length : Nat) : Int)), (9, .psl 0 (jV c l p n.1).length), (10, I (n.1 : Int))], [.row (jo (jV c l p n.1))]⟩) (fun n => 10 ^ c.fields.length - n.1) (⟨0, Nat.zero_le _⟩) ?_ ?_
   ·
    exact zt _ ⟨rfl, rfl, rfl, (congrArg (fun z : Nat => I ((10 ^ z : Nat) : Int)) hk2), rfl, rfl, trivial⟩ (rfl)
   ·
    rintro ⟨n, hn⟩
    dsimp only
    refine zl (zl (zh (zg rfl rfl (zi rfl rfl) (zg rfl rfl (zi rfl rfl) (zg rfl rfl (qi rfl rfl rfl) (zo (zf (zx rfl (fun h_1 => ?_) (fun h_1 => ?_)))))))))
    ·
     have hn10 : n < 10 ^ c.fields.length := by simp only [decide_eq_true_eq] at h_1; omega
     refine zC (zf (zl (zB (zl ?_))))
     refine qx vz ?_
     refine qx vz ?_
     refine qx vz ?_
     refine wR (fun _ => True) (fun k => match k with | 0 => .stable | 1 => .stable | 2 => .stable | 3 => .own 1 | 4 => .stable | 5 => .stable | 6 => .own 2 | 7 => .rd [1, 2] | 8 => .own 3 | 9 => .writes | _ => .here) mixed (by kernel_rfl) rfl (by kernel_rfl) trivial ?_
     refine wo rfl rfl (fun m hm => zu rfl rfl jS) (wo rfl rfl (fun m hm => zA rfl rfl rfl zah) (wo rfl rfl (fun m hm => qh rfl rfl rfl Tryz.underlying22) ?_))
     refine zgb rfl rfl (zaH rfl rfl Tryz.underlying23 ti3 rfl rfl rfl (zs := [.int .i64 0]) rfl rfl rfl (by simp; omega) (by simp; omega) (by decide) rfl) ?_
     refine wo rfl rfl (fun m hm => zq rfl rfl) (wo rfl rfl (fun m hm => qh rfl rfl rfl Tryz.underlying26) ?_)
     refine zgb rfl rfl (zaH rfl rfl Tryz.underlying23 ti3 rfl rfl rfl (zs := [.int .i64 0]) rfl rfl rfl (by simp; omega) (by simp; omega) (by decide) rfl) ?_
     refine zkx [1, 2] rfl rfl (fun m hm hC => zfH (cs := [_, _]) rfl zkY rfl ⟨_, _, rfl, zbO rfl ((hm.one 1 rfl).trans rfl) (by simp), ⟨_, _, rfl, zbO rfl ((hm.one 2 rfl).trans rfl) (by simp), rfl⟩⟩ (by rfl) (by simp [ofV])) ?_
     refine zgb rfl rfl (zb1 rfl zgT rfl rfl rfl) ?_
     refine zaw rfl rfl (jk rfl rfl rfl rfl rfl rfl (zkN rfl) xX (by rfl) (by rfl)) trivial ?_
     refine wQ (zf (zl (zh (zg rfl rfl (zi rfl rfl) (zg rfl rfl (zn rfl rfl) (zg rfl rfl (zn rfl rfl) (zo (zf (zl (zl (zh ?_)))))))))))
     refine zg rfl rfl (zu rfl rfl jS) (zg rfl rfl (zA rfl rfl rfl zah) (zg rfl rfl (qh rfl rfl rfl Tryz.underlying22) ?_))
     refine zg rfl rfl (ze5 rfl rfl rfl ⟨by simp; omega, by simp; omega⟩) ?_
     refine zg rfl rfl (zn rfl rfl) (zo (zf (zB ?_)))
     refine qy (ι := { j : Nat // j <= c.fields.length }) (fun j => ⟨Tryz.f89.ntmps, frL [(1, .pub (qO l)), (2, I (p : Int)), (3, .pub (.ptr (qK c))), (7, I ((10 ^ c.fields.length : Nat) : Int)), (9, .psl 0 (jV c l p n).length), (10, I (n : Int)), (11, .pp 3 1 0 0), (12, I ((n : Int) / (10 ^ j.1 : Nat))), (13, I (smJ n j.1)), (14, I ((c.fields.length : Int) - 1 - (j.1 : Int)))], [.row (jo (jV c l p n)), .row (qA (rdJ c.fields.length n j.1)), .row (qA (List.replicate l.length 0)), .row [[.psl 1 c.fields.length, .psl 2 l.length]]]⟩) (fun j => c.fields.length - j.1) (⟨0, by omega⟩) ?_ ?_
     ·
      exact zt _ ⟨rfl, rfl, rfl, rfl, rfl, rfl, rfl, (congrArg I (by simp)), rfl, (congrArg I (by simp)), trivial⟩ (zst (by simp) (by simp))
     ·
      rintro ⟨j, hj⟩
      dsimp only
      refine zl (zl (zh (zg rfl rfl (zi rfl rfl) (zg rfl rfl (zbe rfl rfl rfl) (zo (zf (zx rfl (fun h_2 => ?_) (fun h_2 => ?_))))))))
      ·
       have hj : j < c.fields.length := by simp only [decide_eq_true_eq] at h_2; omega
       have hd := zse n j
       have hsb := zm9 n j
       refine zC (zf (zl (zB (zh (zg rfl rfl (qE rfl rfl rfl rfl wK) (zg rfl rfl (zK rfl rfl rfl rfl rfl rfl jO) (zg rfl rfl (zi rfl rfl) (zg rfl rfl (zi rfl rfl) ?_))))))))
       refine zg rfl rfl (yA rfl rfl rfl ⟨hd.1, by decide⟩) ?_
       refine zg rfl rfl (zi rfl rfl) (zg rfl rfl (zi rfl rfl) ?_)
       refine zg rfl rfl (yA rfl rfl rfl ⟨hd.1, by decide⟩) ?_
       refine zg rfl rfl (zV rfl rfl rfl ⟨(by omega), (by omega)⟩) (zg rfl rfl (zi rfl rfl) ?_)
       refine zg rfl rfl (zcj rfl rfl rfl ⟨hd.1, Int.le_trans hd.2 (by omega), by decide⟩) ?_
       refine zg rfl rfl (qc rfl rfl rfl rfl (by rw [qm, zhf]) jv (by omega) (by omega) (jh _)) ?_
       refine jb rfl (qG (r := [I ((rdJ c.fields.length n j).getD (c.fields.length - 1 - j) 0)]) rfl rfl rfl rfl (by rw [qm, zhf]) (by rw [toN hj]; exact wY (by rw [zhf]; omega)) (jF rfl) ty3 (by rfl) (by exact zLb rfl)) ?_
       refine zg rfl rfl (zn rfl rfl) (zg rfl rfl (zn rfl rfl) (zo (zD (zf (zh (zg rfl rfl (zi rfl rfl) (zg rfl rfl (ze5 rfl rfl rfl ⟨(by omega), (by omega)⟩) (zg rfl rfl (zn rfl rfl) (zo ?_)))))))))
       exact ⟨⟨j + 1, by omega⟩, by dsimp only; omega, zt _ ⟨rfl, rfl, rfl, rfl, rfl, rfl, rfl, (congrArg I (zp4 n j)), rfl, (congrArg I (show (c.fields.length : Int) - 1 - (j : Int) - 1 = (c.fields.length : Int) - 1 - ((j + 1 : Nat) : Int) by omega)), trivial⟩ (congrArg (fun z => [PO.row (jo (jV c l p n)), PO.row z, PO.row (qA (List.replicate l.length 0)), PO.row [[.psl 1 c.fields.length, .psl 2 l.length]]]) ((wW _ _ _ _).trans (congrArg qA (by rw [toN hj]; exact zqF hj))))⟩
      ·
       have hj2 : j = c.fields.length := by simp only [decide_eq_false_iff_not] at h_2; omega
       refine qp (zL (zL (qw (zf (zl (zh (zg rfl rfl (zn rfl rfl) (zo (zf (zl (zl ?_)))))))))))
       refine zh (zg rfl rfl (zn rfl rfl) (zo (zf (zB ?_))))
       refine qy (ι := { kk : Nat // kk <= l.length }) (fun kk => ⟨Tryz.f89.ntmps, frL [(1, .pub (qO l)), (2, I (p : Int)), (3, .pub (.ptr (qK c))), (7, I ((10 ^ c.fields.length : Nat) : Int)), (9, .psl 0 (jV c l p n).length), (10, I (n : Int)), (11, .pp 3 1 0 0), (13, I (smJ n c.fields.length)), (15, B (fnK c l p (ql c.fields.length n) kk.1)), (16, I (kk.1 : Int))], [.row (jo (jV c l p n)), .row (qA (ql c.fields.length n)), .row (qA (prR (vX l p (ql c.fields.length n)) l.length kk.1)), .row [[.psl 1 c.fields.length, .psl 2 l.length]]]⟩) (fun kk => l.length - kk.1) (⟨0, by omega⟩) ?_ ?_
       ·
        exact zt _ ⟨rfl, rfl, rfl, rfl, rfl, rfl, rfl, (congrArg (fun z => I (smJ n z)) hj2), rfl, rfl, trivial⟩ ((by rw [hj2, zsQ, zn1]))
       ·
        rintro ⟨kk, hkk⟩
        dsimp only
        refine zl (zl (zh (zg rfl rfl (zi rfl rfl) (zg rfl rfl (zq rfl rfl) (zg rfl rfl (qh rfl rfl rfl Tryz.underlying26) (zg rfl rfl (qi rfl rfl rfl) (zo (zf (zx rfl (fun h_3 => ?_) (fun h_3 => ?_))))))))))
        ·
         have hkk : kk < l.length := by simpa [qO] using h_3
         have hgi := getD_in hkk
         have hcg := hcp _ hgi.1
         refine zC (zf (zl (zB (zl (zl (zh (zg rfl rfl (zn rfl rfl) (zo (zf (zB ?_))))))))))
         refine qy (ι := { i : Nat // i <= c.fields.length + 1 }) (fun i => ⟨Tryz.f89.ntmps, frL [(1, .pub (qO l)), (2, I (p : Int)), (3, .pub (.ptr (qK c))), (7, I ((10 ^ c.fields.length : Nat) : Int)), (9, .psl 0 (jV c l p n).length), (10, I (n : Int)), (11, .pp 3 1 0 0), (13, I (smJ n c.fields.length)), (15, B (fnK c l p (ql c.fields.length n) kk && okK c (l.getD kk []) p (ql c.fields.length n) i.1)), (16, I (kk : Int)), (17, I (i.1 : Int))], [.row (jo (jV c l p n)), .row (qA (ql c.fields.length n)), .row (qA ((prR (vX l p (ql c.fields.length n)) l.length kk).set kk (wsK (l.getD kk []) p (ql c.fields.length n) i.1))), .row [[.psl 1 c.fields.length, .psl 2 l.length]]]⟩) (fun i => c.fields.length + 1 - i.1) (⟨0, by omega⟩) ?_ ?_
         ·
          exact zt _ ⟨rfl, rfl, rfl, rfl, rfl, rfl, rfl, rfl, (congrArg B (by simp [okK])), rfl, rfl, trivial⟩ (congrArg (fun z => [PO.row (jo (jV c l p n)), PO.row (qA (ql c.fields.length n)), PO.row (qA z), PO.row [[.psl 1 c.fields.length, .psl 2 l.length]]]) (znW (qL ..) hkk).symm)
         ·
          rintro ⟨i, hi⟩
          dsimp only
          refine zl (zl (zh (zg rfl rfl (zi rfl rfl) (zg rfl rfl (zu rfl rfl jS) (zg rfl rfl (zA rfl rfl rfl zah) (zg rfl rfl (qh rfl rfl rfl Tryz.underlying22) (zg rfl rfl (zaq rfl rfl rfl) (zo (zf (zx rfl (fun h_4 => ?_) (fun h_4 => ?_)))))))))))
          ·
           have hiK : i <= c.fields.length := by simp at h_4; omega
           have hig : i < (l.getD kk []).length := by have := (zdK hcg).1; omega
           have hw5 : p < ((l.getD kk []).getD i []).length := by rw [zoQ hig (fun w hw => zcf ((zdK hcg).2 w hw))]; exact hp
           have hch : 48 <= chF (l.getD kk []) i p /\ chF (l.getD kk []) i p <= 63 := by
            obtain ⟨_, _, _, h1, h2⟩ := za3 hcg hiK hp
            exact ⟨h1, h2⟩
           have hwb := zkG (l.getD kk []) p (ql c.fields.length n) i
           have hwr := zbv (chF (l.getD kk []) i p, vF (ql c.fields.length n) i)
           have hsb := zm9 n c.fields.length
           refine zC (zf (zl (zB (zl (zh (zg rfl rfl (zi rfl rfl) (zg rfl rfl (yA rfl rfl rfl ⟨(by omega), (by omega)⟩) (zg rfl rfl (zn rfl rfl) (zo (zf (zl ?_)))))))))))
           refine zl (zh (zg rfl rfl (zi rfl rfl) (zg rfl rfl (zu rfl rfl jS) (zg rfl rfl (zA rfl rfl rfl zah) (zg rfl rfl (qh rfl rfl rfl Tryz.underlying22) (zg rfl rfl (qi rfl rfl rfl) (zo (zf (zx rfl (fun h_5 => ?_) (fun h_5 => ?_))))))))))
           ·
            have hiK2 : i < c.fields.length := by simpa using h_5
            have hcd := zpw (n := n) hiK2
            refine zh (zg rfl rfl (qE rfl rfl rfl rfl wK) (zg rfl rfl (zK rfl rfl rfl rfl rfl rfl jO) (zg rfl rfl (zi rfl rfl) ?_)))
            refine zg rfl rfl (qc rfl rfl rfl rfl (by rw [qm, vk]) jv (by omega) (by omega) (jh _)) ?_
            refine zg rfl rfl (zK (c := I ((ql c.fields.length n).getD i 0)) rfl rfl rfl (by rw [qm, vk]) (wY (by rw [vk]; omega)) rfl ty3) ?_
            refine zg rfl rfl (zn rfl rfl) (zo (zf (zl ?_)))
            refine qx (zt (mem' := [.row (jo (jV c l p n)), .row (qA (ql c.fields.length n)), .row (qA ((prR (vX l p (ql c.fields.length n)) l.length kk).set kk (wsK (l.getD kk []) p (ql c.fields.length n) i))), .row [[.psl 1 c.fields.length, .psl 2 l.length]]]) [(1, .pub (qO l)), (2, I (p : Int)), (3, .pub (.ptr (qK c))), (7, I ((10 ^ c.fields.length : Nat) : Int)), (9, .psl 0 (jV c l p n).length), (10, I (n : Int)), (11, .pp 3 1 0 0), (13, I (smJ n c.fields.length)), (15, B (fnK c l p (ql c.fields.length n) kk && okK c (l.getD kk []) p (ql c.fields.length n) i)), (16, I (kk : Int)), (17, I (i : Int)), (18, I (vF (ql c.fields.length n) i))] ?_ ?_) ?_
            ·
             exact ⟨rfl, rfl, rfl, rfl, rfl, rfl, rfl, rfl, rfl, rfl, rfl, (congrArg I hcd), trivial⟩
            ·
             exact (rfl)
            refine qY mixed (by kernel_rfl) rfl ?_
            refine zH rfl (zZ rfl rfl wH (by exact zLb rfl)) (zH rfl (zi rfl rfl) (zH rfl (zq rfl rfl) (zH rfl (zi rfl rfl) (zH rfl (zG rfl rfl rfl zbo (by omega) (zlQ hkk) yS) (zH rfl (zA rfl rfl rfl zfC) (zH rfl (zi rfl rfl) (zH rfl (zG rfl rfl rfl yJ (by omega) (zk9 hig) vZ) (zH rfl (zA rfl rfl rfl ty9) (zH rfl (zi rfl rfl) (zH rfl (wC (c := ((l.getD kk []).getD i []).getD p 0) rfl rfl rfl Tryz.underlying9 (by omega) (zjB hw5)) (zH rfl (zy (av := [_, _, _]) rfl ⟨rfl, rfl, rfl, trivial⟩ (zqM c (chF (l.getD kk []) i p) (vF (ql c.fields.length n) i) (vF (ql c.fields.length n) i) rfl hc hch zlI)) ?_)))))))))))
            refine zH rfl (zq rfl rfl) (zH rfl (zN rfl rfl rfl) (zH rfl (zN rfl rfl rfl) (zH rfl (zn rfl rfl) (zH rfl (zn rfl rfl) (jw (zf ?_))))))
            refine Or.elim (zrJ (fnK c l p (ql c.fields.length n) kk && okK c (l.getD kk []) p (ql c.fields.length n) i)) (fun hb => ?_) (fun hb => ?_)
            ·
             refine qx (zt (mem' := [.row (jo (jV c l p n)), .row (qA (ql c.fields.length n)), .row (qA ((prR (vX l p (ql c.fields.length n)) l.length kk).set kk (wsK (l.getD kk []) p (ql c.fields.length n) i))), .row [[.psl 1 c.fields.length, .psl 2 l.length]]]) [(1, .pub (qO l)), (2, I (p : Int)), (3, .pub (.ptr (qK c))), (7, I ((10 ^ c.fields.length : Nat) : Int)), (9, .psl 0 (jV c l p n).length), (10, I (n : Int)), (11, .pp 3 1 0 0), (13, I (smJ n c.fields.length)), (15, B false), (16, I (kk : Int)), (17, I (i : Int)), (19, I (wrN (chF (l.getD kk []) i p, vF (ql c.fields.length n) i))), (20, B (okP c (chF (l.getD kk []) i p, vF (ql c.fields.length n) i)))] ?_ ?_) ?_
             ·
              exact ⟨rfl, rfl, rfl, rfl, rfl, rfl, rfl, rfl, (congrArg B hb), rfl, rfl, rfl, rfl, trivial⟩
             ·
              exact (rfl)
             have he15 : false = (fnK c l p (ql c.fields.length n) kk && okK c (l.getD kk []) p (ql c.fields.length n) (i + 1)) := by rw [zc4, ← Bool.and_assoc, hb]; rfl
             refine wR (fun _ => True) (fun k => match k with | 10 => .stable | 12 => .out | 13 => .stable | 15 => .writes | 16 => .stable | _ => .here) mixed (by kernel_rfl) rfl (by kernel_rfl) trivial ?_
             refine zX rfl rfl (qE rfl rfl rfl rfl jG) (zX rfl rfl (zK rfl rfl rfl rfl rfl rfl jO) (zX rfl rfl (zi rfl rfl) (zX rfl rfl (qE rfl rfl rfl rfl jG) (zX rfl rfl (zK rfl rfl rfl rfl rfl rfl jO) (zX rfl rfl (zi rfl rfl) ?_)))))
             refine zX rfl rfl (qc rfl rfl rfl rfl (by rw [qm, List.length_set, qC (qL ..) (by omega)]) jv (by omega) (by omega) (jh _)) ?_
             refine zX rfl rfl (zK (c := I (wsK (l.getD kk []) p (ql c.fields.length n) i)) rfl rfl rfl (by rw [qm, List.length_set, qC (qL ..) (by omega)]) (kW (by rw [qC (qL ..) (by omega)]; omega)) rfl ty3) ?_
             refine zX rfl rfl (zi rfl rfl) (zX rfl rfl (zV rfl rfl rfl ⟨(by omega), (by omega)⟩) (wo rfl rfl (fun m hm => zi rfl rfl) (zX rfl rfl (zi rfl rfl) ?_)))
             refine znq rfl rfl ?_
             refine wo rfl rfl (fun m hm => zU rfl rfl (fun h => absurd h (by decide)) (fun _ => rfl)) ?_
             refine zX rfl rfl (qc rfl rfl rfl rfl (by rw [qm, List.length_set, qC (qL ..) (by omega)]) jv (by omega) (by omega) (jh _)) ?_
             refine zaw rfl rfl (jk (r := [I (wsK (l.getD kk []) p (ql c.fields.length n) i)]) rfl rfl rfl rfl (by rw [qm, List.length_set, qC (qL ..) (by omega)]) (kW (by rw [qC (qL ..) (by omega)]; omega)) (jF rfl) ty3 (by rfl) (by rfl)) trivial ?_
             refine wo rfl rfl (fun m hm => zn rfl rfl) (wQ (zD (zf (zh (zg rfl rfl (zi rfl rfl) (zg rfl rfl (zV rfl rfl rfl ⟨(by omega), (by omega)⟩) (zg rfl rfl (zn rfl rfl) (zo ?_))))))))
             exact ⟨⟨i + 1, by omega⟩, by dsimp only; omega, zt _ ⟨rfl, rfl, rfl, rfl, rfl, rfl, rfl, rfl, (congrArg B he15), rfl, rfl, trivial⟩ (congrArg (fun z => [PO.row (jo (jV c l p n)), PO.row (qA (ql c.fields.length n)), PO.row z, PO.row [[.psl 1 c.fields.length, .psl 2 l.length]]]) ((wW _ _ _ _).trans (congrArg qA (by rw [Int.toNat_natCast, List.set_set]; rfl))))⟩
            ·
             refine qx (zt (mem' := [.row (jo (jV c l p n)), .row (qA (ql c.fields.length n)), .row (qA ((prR (vX l p (ql c.fields.length n)) l.length kk).set kk (wsK (l.getD kk []) p (ql c.fields.length n) i))), .row [[.psl 1 c.fields.length, .psl 2 l.length]]]) [(1, .pub (qO l)), (2, I (p : Int)), (3, .pub (.ptr (qK c))), (7, I ((10 ^ c.fields.length : Nat) : Int)), (9, .psl 0 (jV c l p n).length), (10, I (n : Int)), (11, .pp 3 1 0 0), (13, I (smJ n c.fields.length)), (15, B true), (16, I (kk : Int)), (17, I (i : Int)), (19, I (wrN (chF (l.getD kk []) i p, vF (ql c.fields.length n) i))), (20, B (okP c (chF (l.getD kk []) i p, vF (ql c.fields.length n) i)))] ?_ ?_) ?_
             ·
              exact ⟨rfl, rfl, rfl, rfl, rfl, rfl, rfl, rfl, (congrArg B hb), rfl, rfl, rfl, rfl, trivial⟩
             ·
              exact (rfl)
             have he15 : okP c (chF (l.getD kk []) i p, vF (ql c.fields.length n) i) = (fnK c l p (ql c.fields.length n) kk && okK c (l.getD kk []) p (ql c.fields.length n) (i + 1)) := by rw [zc4, ← Bool.and_assoc, hb]; rfl
             refine wR (fun _ => True) (fun k => match k with | 10 => .stable | 12 => .stable | 13 => .stable | 15 => .writes | 16 => .stable | _ => .here) mixed (by kernel_rfl) rfl (by kernel_rfl) trivial ?_
             refine zX rfl rfl (qE rfl rfl rfl rfl jG) (zX rfl rfl (zK rfl rfl rfl rfl rfl rfl jO) (zX rfl rfl (zi rfl rfl) (zX rfl rfl (qE rfl rfl rfl rfl jG) (zX rfl rfl (zK rfl rfl rfl rfl rfl rfl jO) (zX rfl rfl (zi rfl rfl) ?_)))))
             refine zX rfl rfl (qc rfl rfl rfl rfl (by rw [qm, List.length_set, qC (qL ..) (by omega)]) jv (by omega) (by omega) (jh _)) ?_
             refine zX rfl rfl (zK (c := I (wsK (l.getD kk []) p (ql c.fields.length n) i)) rfl rfl rfl (by rw [qm, List.length_set, qC (qL ..) (by omega)]) (kW (by rw [qC (qL ..) (by omega)]; omega)) rfl ty3) ?_
             refine zX rfl rfl (zi rfl rfl) (zX rfl rfl (zV rfl rfl rfl ⟨(by omega), (by omega)⟩) (wo rfl rfl (fun m hm => zi rfl rfl) (zX rfl rfl (zi rfl rfl) (wo rfl rfl (fun m hm => zi rfl rfl) ?_))))
             refine wo rfl rfl (fun m hm => zU rfl rfl (fun _ => rfl) (fun h => absurd h (by decide))) ?_
             refine zX rfl rfl (qc rfl rfl rfl rfl (by rw [qm, List.length_set, qC (qL ..) (by omega)]) jv (by omega) (by omega) (jh _)) ?_
             refine zaw rfl rfl (jk (r := [I (wsK (l.getD kk []) p (ql c.fields.length n) i)]) rfl rfl rfl rfl (by rw [qm, List.length_set, qC (qL ..) (by omega)]) (kW (by rw [qC (qL ..) (by omega)]; omega)) (jF rfl) ty3 (by rfl) (by rfl)) trivial ?_
             refine wo rfl rfl (fun m hm => zn rfl rfl) (wQ (zD (zf (zh (zg rfl rfl (zi rfl rfl) (zg rfl rfl (zV rfl rfl rfl ⟨(by omega), (by omega)⟩) (zg rfl rfl (zn rfl rfl) (zo ?_))))))))
             exact ⟨⟨i + 1, by omega⟩, by dsimp only; omega, zt _ ⟨rfl, rfl, rfl, rfl, rfl, rfl, rfl, rfl, (congrArg B he15), rfl, rfl, trivial⟩ (congrArg (fun z => [PO.row (jo (jV c l p n)), PO.row (qA (ql c.fields.length n)), PO.row z, PO.row [[.psl 1 c.fields.length, .psl 2 l.length]]]) ((wW _ _ _ _).trans (congrArg qA (by rw [Int.toNat_natCast, List.set_set]; rfl))))⟩
           ·
            have hiK2 : c.fields.length <= i := by simpa using h_5
            have hcd := zqw (n := n) hcb.1 hiK2
            refine zC (zf (zl ?_))
            refine qx (zt (mem' := [.row (jo (jV c l p n)), .row (qA (ql c.fields.length n)), .row (qA ((prR (vX l p (ql c.fields.length n)) l.length kk).set kk (wsK (l.getD kk []) p (ql c.fields.length n) i))), .row [[.psl 1 c.fields.length, .psl 2 l.length]]]) [(1, .pub (qO l)), (2, I (p : Int)), (3, .pub (.ptr (qK c))), (7, I ((10 ^ c.fields.length : Nat) : Int)), (9, .psl 0 (jV c l p n).length), (10, I (n : Int)), (11, .pp 3 1 0 0), (13, I (smJ n c.fields.length)), (15, B (fnK c l p (ql c.fields.length n) kk && okK c (l.getD kk []) p (ql c.fields.length n) i)), (16, I (kk : Int)), (17, I (i : Int)), (18, I (vF (ql c.fields.length n) i))] ?_ ?_) ?_
            ·
             exact ⟨rfl, rfl, rfl, rfl, rfl, rfl, rfl, rfl, rfl, rfl, rfl, (congrArg I hcd), trivial⟩
            ·
             exact (rfl)
            refine qY mixed (by kernel_rfl) rfl ?_
            refine zH rfl (zZ rfl rfl wH (by exact zLb rfl)) (zH rfl (zi rfl rfl) (zH rfl (zq rfl rfl) (zH rfl (zi rfl rfl) (zH rfl (zG rfl rfl rfl zbo (by omega) (zlQ hkk) yS) (zH rfl (zA rfl rfl rfl zfC) (zH rfl (zi rfl rfl) (zH rfl (zG rfl rfl rfl yJ (by omega) (zk9 hig) vZ) (zH rfl (zA rfl rfl rfl ty9) (zH rfl (zi rfl rfl) (zH rfl (wC (c := ((l.getD kk []).getD i []).getD p 0) rfl rfl rfl Tryz.underlying9 (by omega) (zjB hw5)) (zH rfl (zy (av := [_, _, _]) rfl ⟨rfl, rfl, rfl, trivial⟩ (zqM c (chF (l.getD kk []) i p) (vF (ql c.fields.length n) i) (vF (ql c.fields.length n) i) rfl hc hch zlI)) ?_)))))))))))
            refine zH rfl (zq rfl rfl) (zH rfl (zN rfl rfl rfl) (zH rfl (zN rfl rfl rfl) (zH rfl (zn rfl rfl) (zH rfl (zn rfl rfl) (jw (zf ?_))))))
            refine Or.elim (zrJ (fnK c l p (ql c.fields.length n) kk && okK c (l.getD kk []) p (ql c.fields.length n) i)) (fun hb => ?_) (fun hb => ?_)
            ·
             refine qx (zt (mem' := [.row (jo (jV c l p n)), .row (qA (ql c.fields.length n)), .row (qA ((prR (vX l p (ql c.fields.length n)) l.length kk).set kk (wsK (l.getD kk []) p (ql c.fields.length n) i))), .row [[.psl 1 c.fields.length, .psl 2 l.length]]]) [(1, .pub (qO l)), (2, I (p : Int)), (3, .pub (.ptr (qK c))), (7, I ((10 ^ c.fields.length : Nat) : Int)), (9, .psl 0 (jV c l p n).length), (10, I (n : Int)), (11, .pp 3 1 0 0), (13, I (smJ n c.fields.length)), (15, B false), (16, I (kk : Int)), (17, I (i : Int)), (19, I (wrN (chF (l.getD kk []) i p, vF (ql c.fields.length n) i))), (20, B (okP c (chF (l.getD kk []) i p, vF (ql c.fields.length n) i)))] ?_ ?_) ?_
             ·
              exact ⟨rfl, rfl, rfl, rfl, rfl, rfl, rfl, rfl, (congrArg B hb), rfl, rfl, rfl, rfl, trivial⟩
             ·
              exact (rfl)
             have he15 : false = (fnK c l p (ql c.fields.length n) kk && okK c (l.getD kk []) p (ql c.fields.length n) (i + 1)) := by rw [zc4, ← Bool.and_assoc, hb]; rfl
             refine wR (fun _ => True) (fun k => match k with | 10 => .stable | 12 => .out | 13 => .stable | 15 => .writes | 16 => .stable | _ => .here) mixed (by kernel_rfl) rfl (by kernel_rfl) trivial ?_
             refine zX rfl rfl (qE rfl rfl rfl rfl jG) (zX rfl rfl (zK rfl rfl rfl rfl rfl rfl jO) (zX rfl rfl (zi rfl rfl) (zX rfl rfl (qE rfl rfl rfl rfl jG) (zX rfl rfl (zK rfl rfl rfl rfl rfl rfl jO) (zX rfl rfl (zi rfl rfl) ?_)))))
             refine zX rfl rfl (qc rfl rfl rfl rfl (by rw [qm, List.length_set, qC (qL ..) (by omega)]) jv (by omega) (by omega) (jh _)) ?_
             refine zX rfl rfl (zK (c := I (wsK (l.getD kk []) p (ql c.fields.length n) i)) rfl rfl rfl (by rw [qm, List.length_set, qC (qL ..) (by omega)]) (kW (by rw [qC (qL ..) (by omega)]; omega)) rfl ty3) ?_
             refine zX rfl rfl (zi rfl rfl) (zX rfl rfl (zV rfl rfl rfl ⟨(by omega), (by omega)⟩) (wo rfl rfl (fun m hm => zi rfl rfl) (zX rfl rfl (zi rfl rfl) ?_)))
             refine znq rfl rfl ?_
             refine wo rfl rfl (fun m hm => zU rfl rfl (fun h => absurd h (by decide)) (fun _ => rfl)) ?_
             refine zX rfl rfl (qc rfl rfl rfl rfl (by rw [qm, List.length_set, qC (qL ..) (by omega)]) jv (by omega) (by omega) (jh _)) ?_
             refine zaw rfl rfl (jk (r := [I (wsK (l.getD kk []) p (ql c.fields.length n) i)]) rfl rfl rfl rfl (by rw [qm, List.length_set, qC (qL ..) (by omega)]) (kW (by rw [qC (qL ..) (by omega)]; omega)) (jF rfl) ty3 (by rfl) (by rfl)) trivial ?_
             refine wo rfl rfl (fun m hm => zn rfl rfl) (wQ (zD (zf (zh (zg rfl rfl (zi rfl rfl) (zg rfl rfl (zV rfl rfl rfl ⟨(by omega), (by omega)⟩) (zg rfl rfl (zn rfl rfl) (zo ?_))))))))
             exact ⟨⟨i + 1, by omega⟩, by dsimp only; omega, zt _ ⟨rfl, rfl, rfl, rfl, rfl, rfl, rfl, rfl, (congrArg B he15), rfl, rfl, trivial⟩ (congrArg (fun z => [PO.row (jo (jV c l p n)), PO.row (qA (ql c.fields.length n)), PO.row z, PO.row [[.psl 1 c.fields.length, .psl 2 l.length]]]) ((wW _ _ _ _).trans (congrArg qA (by rw [Int.toNat_natCast, List.set_set]; rfl))))⟩
            ·
             refine qx (zt (mem' := [.row (jo (jV c l p n)), .row (qA (ql c.fields.length n)), .row (qA ((prR (vX l p (ql c.fields.length n)) l.length kk).set kk (wsK (l.getD kk []) p (ql c.fields.length n) i))), .row [[.psl 1 c.fields.length, .psl 2 l.length]]]) [(1, .pub (qO l)), (2, I (p : Int)), (3, .pub (.ptr (qK c))), (7, I ((10 ^ c.fields.length : Nat) : Int)), (9, .psl 0 (jV c l p n).length), (10, I (n : Int)), (11, .pp 3 1 0 0), (13, I (smJ n c.fields.length)), (15, B true), (16, I (kk : Int)), (17, I (i : Int)), (19, I (wrN (chF (l.getD kk []) i p, vF (ql c.fields.length n) i))), (20, B (okP c (chF (l.getD kk []) i p, vF (ql c.fields.length n) i)))] ?_ ?_) ?_
             ·
              exact ⟨rfl, rfl, rfl, rfl, rfl, rfl, rfl, rfl, (congrArg B hb), rfl, rfl, rfl, rfl, trivial⟩
             ·
              exact (rfl)
             have he15 : okP c (chF (l.getD kk []) i p, vF (ql c.fields.length n) i) = (fnK c l p (ql c.fields.length n) kk && okK c (l.getD kk []) p (ql c.fields.length n) (i + 1)) := by rw [zc4, ← Bool.and_assoc, hb]; rfl
             refine wR (fun _ => True) (fun k => match k with | 10 => .stable | 12 => .stable | 13 => .stable | 15 => .writes | 16 => .stable | _ => .here) mixed (by kernel_rfl) rfl (by kernel_rfl) trivial ?_
             refine zX rfl rfl (qE rfl rfl rfl rfl jG) (zX rfl rfl (zK rfl rfl rfl rfl rfl rfl jO) (zX rfl rfl (zi rfl rfl) (zX rfl rfl (qE rfl rfl rfl rfl jG) (zX rfl rfl (zK rfl rfl rfl rfl rfl rfl jO) (zX rfl rfl (zi rfl rfl) ?_)))))
             refine zX rfl rfl (qc rfl rfl rfl rfl (by rw [qm, List.length_set, qC (qL ..) (by omega)]) jv (by omega) (by omega) (jh _)) ?_
             refine zX rfl rfl (zK (c := I (wsK (l.getD kk []) p (ql c.fields.length n) i)) rfl rfl rfl (by rw [qm, List.length_set, qC (qL ..) (by omega)]) (kW (by rw [qC (qL ..) (by omega)]; omega)) rfl ty3) ?_
             refine zX rfl rfl (zi rfl rfl) (zX rfl rfl (zV rfl rfl rfl ⟨(by omega), (by omega)⟩) (wo rfl rfl (fun m hm => zi rfl rfl) (zX rfl rfl (zi rfl rfl) (wo rfl rfl (fun m hm => zi rfl rfl) ?_))))
             refine wo rfl rfl (fun m hm => zU rfl rfl (fun _ => rfl) (fun h => absurd h (by decide))) ?_
             refine zX rfl rfl (qc rfl rfl rfl rfl (by rw [qm, List.length_set, qC (qL ..) (by omega)]) jv (by omega) (by omega) (jh _)) ?_
             refine zaw rfl rfl (jk (r := [I (wsK (l.getD kk []) p (ql c.fields.length n) i)]) rfl rfl rfl rfl (by rw [qm, List.length_set, qC (qL ..) (by omega)]) (kW (by rw [qC (qL ..) (by omega)]; omega)) (jF rfl) ty3 (by rfl) (by rfl)) trivial ?_
             refine wo rfl rfl (fun m hm => zn rfl rfl) (wQ (zD (zf (zh (zg rfl rfl (zi rfl rfl) (zg rfl rfl (zV rfl rfl rfl ⟨(by omega), (by omega)⟩) (zg rfl rfl (zn rfl rfl) (zo ?_))))))))
             exact ⟨⟨i + 1, by omega⟩, by dsimp only; omega, zt _ ⟨rfl, rfl, rfl, rfl, rfl, rfl, rfl, rfl, (congrArg B he15), rfl, rfl, trivial⟩ (congrArg (fun z => [PO.row (jo (jV c l p n)), PO.row (qA (ql c.fields.length n)), PO.row z, PO.row [[.psl 1 c.fields.length, .psl 2 l.length]]]) ((wW _ _ _ _).trans (congrArg qA (by rw [Int.toNat_natCast, List.set_set]; rfl))))⟩
          ·
           have hi2 : i = c.fields.length + 1 := by simp at h_4; omega
           have hwb := zkG (l.getD kk []) p (ql c.fields.length n) i
           refine qp (zL (zL (qw (zf ?_))))
           refine qY mixed (by kernel_rfl) rfl ?_
           refine zH rfl (zi rfl rfl) (zH rfl (zi rfl rfl) (jm rfl (fun hg => qE rfl rfl rfl rfl jG) (jm rfl (fun hg => zK rfl (ifp hg) rfl rfl rfl rfl jO) (jm rfl (fun hg => zi rfl rfl) ?_))))
           refine jm rfl (fun hg => qc rfl (ifp hg) (ifp hg) rfl (by rw [qm, List.length_set, qC (qL ..) (by omega)]) jv (by omega) (by omega) (jh _)) ?_
           refine jm rfl (fun hg => zK (c := I (wsK (l.getD kk []) p (ql c.fields.length n) i)) rfl (ifp hg) rfl (by rw [qm, List.length_set, qC (qL ..) (by omega)]) (kW (by rw [qC (qL ..) (by omega)]; omega)) rfl ty3) ?_
           refine jm rfl (fun hg => zu rfl rfl jZ) (jm rfl (fun hg => zA rfl (if_pos hg) rfl ty3) (jm rfl (fun hg => zaq rfl (if_pos hg) (if_pos hg)) (zH rfl (qI rfl rfl rfl rfl) (zH rfl (zn rfl rfl) (jw (zD (zf (zh (zg rfl rfl (zi rfl rfl) (zg rfl rfl (zV rfl rfl rfl ⟨(by omega), (by omega)⟩) (zg rfl rfl (zn rfl rfl) ?_)))))))))))
           refine zo ?_
           exact ⟨⟨kk + 1, by omega⟩, by dsimp only; omega, zt _ ⟨rfl, rfl, rfl, rfl, rfl, rfl, rfl, rfl, (congrArg B (by rw [hi2, zp3, zen, zng hkk, ← hgi.2, Bool.and_assoc])), rfl, trivial⟩ (congrArg (fun z => [PO.row (jo (jV c l p n)), PO.row (qA (ql c.fields.length n)), PO.row (qA z), PO.row [[.psl 1 c.fields.length, .psl 2 l.length]]]) (zc2 (qL ..) hkk (by rw [zpD hkk, hi2, zen, hgi.2])))⟩
        ·
         have hge : l.length <= kk := by simpa [qO] using h_3
         have hkk2 : kk = l.length := by omega
         refine qp (zL (zL (qw (zf (zl (zh (zg rfl rfl (zi rfl rfl) (zo (zf (zx rfl (fun h_6 => ?_) (fun h_6 => ?_)))))))))))
         ·
          have hcf : zdv c l p (ql c.fields.length n) = true := by rw [← zlA (k := kk) (by omega)]; exact h_6
          have hcy := zoP hcf
          have hW : (prR (vX l p (ql c.fields.length n)) l.length kk) = vX l p (ql c.fields.length n) := by rw [hkk2, zhZ (qL ..)]
          have hrow2 : jo (jV c l p n) ++ [[.pub (zO (ql c.fields.length n)), .pub (zO (prR (vX l p (ql c.fields.length n)) l.length kk))]] = jo (jV c l p (n + 1)) := by rw [hcy, ← zft, hW]
          have hlen2 : (jV c l p n).length + 1 = (jV c l p (n + 1)).length := by rw [hcy]; simp
          refine qx (kY (k := 1) (m := c.fields.length) (c := 3) (i := 0) (j := 0) (rows := (ql c.fields.length n).map fun n => [AV.v (.int .i64 n)]) ?_ ?_ rfl rfl rfl rfl) ?_
          ·
           exact (congrArg (fun z => some (PO.row z)) (yK _))
          ·
           rw [List.length_map, vk]
          refine qx (kY (k := 2) (m := l.length) (c := 3) (i := 0) (j := 1) (rows := (prR (vX l p (ql c.fields.length n)) l.length kk).map fun n => [AV.v (.int .i64 n)]) ?_ ?_ rfl rfl rfl rfl) ?_
          ·
           exact (congrArg (fun z => some (PO.row z)) (yK _))
          ·
           rw [List.length_map, qC (qL ..) (by omega)]
          refine zh (zg rfl rfl (zI rfl rfl) (zg rfl rfl (qN (cs := [_, _]) rfl rfl rfl rfl rfl (by exact zLb rfl) rfl xX) ?_))
          refine zg rfl rfl (qg (size := 2) (rows := [[_, _]]) rfl Tryz.underlying123 znT rfl (by decide) rfl (by decide) ⟨_, _, rfl, (zY rfl), rfl⟩ (by rfl) (by simp [ofV]) rfl (by simp)) ?_
          refine jb rfl (vS rfl rfl rfl rfl (zgX _) rfl zq6 (zgu _) (by simp) (by have := zcR c l p n; simp; omega) (by have := zcR c l p n; unfold maxLen; simp; omega)) ?_
          refine zg rfl rfl (qo rfl rfl) (zo (zD (zf (zh (zg rfl rfl (zi rfl rfl) (zg rfl rfl (zV rfl rfl rfl ⟨(by omega), (by omega)⟩) (zg rfl rfl (zn rfl rfl) (zo ?_))))))))
          first | exact ⟨⟨n + 1, by omega⟩, by dsimp only; omega, Weak.trans (zt (mem' := [.row (jo (jV c l p (n + 1))), .dead, .dead, .row [[.pub (.sl ((ql c.fields.length n).map fun n => [AV.v (.int .i64 n)])), .pub (.sl ((prR (vX l p (ql c.fields.length n)) l.length kk).map fun n => [AV.v (.int .i64 n)]))]]]) [(1, .pub (qO l)), (2, I (p : Int)), (3, .pub (.ptr (qK c))), (7, I ((10 ^ c.fields.length : Nat) : Int)), (9, .psl 0 (jV c l p (n + 1)).length), (10, I ((n + 1 : Nat) : Int))] ⟨rfl, rfl, rfl, rfl, congrArg (EV.psl 0) hlen2, rfl, trivial⟩ (congrArg (fun z => [PO.row z, .dead, .dead, .row [[.pub (.sl ((ql c.fields.length n).map fun n => [AV.v (.int .i64 n)])), .pub (.sl ((prR (vX l p (ql c.fields.length n)) l.length kk).map fun n => [AV.v (.int .i64 n)]))]]]) hrow2)) (vO 1 ⟨trivial, trivial, trivial, trivial, (show 0 < 1 by omega), trivial, trivial⟩ ⟨kD _, trivial⟩)⟩ | exact ⟨⟨n + 1, by omega⟩, by dsimp only; omega, Weak.trans (zt (mem' := [.row (jo (jV c l p (n + 1))), .row (qA (ql c.fields.length n)), .row (qA (prR (vX l p (ql c.fields.length n)) l.length kk)), .row [[.psl 1 c.fields.length, .psl 2 l.length]]]) [(1, .pub (qO l)), (2, I (p : Int)), (3, .pub (.ptr (qK c))), (7, I ((10 ^ c.fields.length : Nat) : Int)), (9, .psl 0 (jV c l p (n + 1)).length), (10, I ((n + 1 : Nat) : Int))] ⟨rfl, rfl, rfl, rfl, congrArg (EV.psl 0) hlen2, rfl, trivial⟩ (congrArg (fun z => [PO.row z, .row (qA (ql c.fields.length n)), .row (qA (prR (vX l p (ql c.fields.length n)) l.length kk)), .row [[.psl 1 c.fields.length, .psl 2 l.length]]]) hrow2)) (vO 1 ⟨trivial, trivial, trivial, trivial, (show 0 < 1 by omega), trivial, trivial⟩ ⟨kD _, trivial⟩)⟩
         ·
          have hcf : zdv c l p (ql c.fields.length n) = false := by rw [← zlA (k := kk) (by omega)]; exact h_6
          have hcy := zpx hcf
          have hrow2 : jo (jV c l p n) = jo (jV c l p (n + 1)) := by rw [hcy]
          have hlen2 : (jV c l p n).length = (jV c l p (n + 1)).length := by rw [hcy]
          refine zC (zD (zf (zh (zg rfl rfl (zi rfl rfl) (zg rfl rfl (zV rfl rfl rfl ⟨(by omega), (by omega)⟩) (zg rfl rfl (zn rfl rfl) (zo ?_)))))))
          first | exact ⟨⟨n + 1, by omega⟩, by dsimp only; omega, Weak.trans (zt (mem' := [.row (jo (jV c l p (n + 1))), .dead, .dead, .row [[.pub (.sl ((ql c.fields.length n).map fun n => [AV.v (.int .i64 n)])), .pub (.sl ((prR (vX l p (ql c.fields.length n)) l.length kk).map fun n => [AV.v (.int .i64 n)]))]]]) [(1, .pub (qO l)), (2, I (p : Int)), (3, .pub (.ptr (qK c))), (7, I ((10 ^ c.fields.length : Nat) : Int)), (9, .psl 0 (jV c l p (n + 1)).length), (10, I ((n + 1 : Nat) : Int))] ⟨rfl, rfl, rfl, rfl, congrArg (EV.psl 0) hlen2, rfl, trivial⟩ (congrArg (fun z => [PO.row z, .dead, .dead, .row [[.pub (.sl ((ql c.fields.length n).map fun n => [AV.v (.int .i64 n)])), .pub (.sl ((prR (vX l p (ql c.fields.length n)) l.length kk).map fun n => [AV.v (.int .i64 n)]))]]]) hrow2)) (vO 1 ⟨trivial, trivial, trivial, trivial, (show 0 < 1 by omega), trivial, trivial⟩ ⟨kD _, trivial⟩)⟩ | exact ⟨⟨n + 1, by omega⟩, by dsimp only; omega, Weak.trans (zt (mem' := [.row (jo (jV c l p (n + 1))), .row (qA (ql c.fields.length n)), .row (qA (prR (vX l p (ql c.fields.length n)) l.length kk)), .row [[.psl 1 c.fields.length, .psl 2 l.length]]]) [(1, .pub (qO l)), (2, I (p : Int)), (3, .pub (.ptr (qK c))), (7, I ((10 ^ c.fields.length : Nat) : Int)), (9, .psl 0 (jV c l p (n + 1)).length), (10, I ((n + 1 : Nat) : Int))] ⟨rfl, rfl, rfl, rfl, congrArg (EV.psl 0) hlen2, rfl, trivial⟩ (congrArg (fun z => [PO.row z, .row (qA (ql c.fields.length n)), .row (qA (prR (vX l p (ql c.fields.length n)) l.length kk)), .row [[.psl 1 c.fields.length, .psl 2 l.length]]]) hrow2)) (vO 1 ⟨trivial, trivial, trivial, trivial, (show 0 < 1 by omega), trivial, trivial⟩ ⟨kD _, trivial⟩)⟩
    ·
     have hn10 : n = 10 ^ c.fields.length := by simp only [decide_eq_false_iff_not] at h_1; omega
     refine qp (zL (zL (qw (zf (zl (zh (zg rfl rfl (zI rfl rfl) (zg rfl rfl (qo rfl rfl) (zo (zf (zP ?_)))))))))))
     exact ⟨.inr rfl, ⟨(jl c l p).map jg, by show some (PO.row _) = some (PO.row _); rw [hn10, zdg]; exact congrArg (fun z => some (PO.row z)) (zgN _), by rw [hn10, zdg]; simp, rfl⟩⟩
end Go.Av
end
