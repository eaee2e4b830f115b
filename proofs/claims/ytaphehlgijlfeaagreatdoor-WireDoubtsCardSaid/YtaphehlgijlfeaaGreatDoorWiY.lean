
import Derived.Test.YtaphehlgijlfeaaGreatDoorWiX
import Derived.Test.YtaphehlgijlfeaaGreatDoorPlatP
import Derived.Test.YtaphehlgijlfeaaGreatDoorWiQ
set_option linter.unusedVariables false
set_option linter.unusedSimpArgs false
section
namespace Go.Av
open Go.Proofs
set_option maxRecDepth 100000
set_option maxHeartbeats 1000000
variable {G : Glob}
theorem zqN : elemIs Tryz.prog 123 122 2 48 := ⟨Tryz.underlying123, Tryz.t122, _, by kernel_rfl, rfl, rfl, rfl, rfl, by decide⟩
theorem zoG : Tryz.prog.info? 122 = some Tryz.t122 := by kernel_rfl
theorem ifp {α : Type} {c : Prop} [Decidable c] {a b : α} (h : c) : (if c then a else b) = a := if_pos h
theorem zlK {l : List (List (List UInt8))} {k : Nat} (h : k < l.length) : (l.map fun g => [jC g])[k]? = some [jC (l.getD k [])] := by simp [h]
theorem zlN {g : List (List UInt8)} {k : Nat} (h : k < g.length) : (g.map fun s => [eS s])[k]? = some [eS (g.getD k [])] := by simp [h]
theorem zjJ {w : List UInt8} {k : Nat} (h : k < w.length) : w[k]? = some (w.getD k 0) := by simp [h]
theorem zno {M : List Int} {n k : Nat} (h : M.length = n) (hk : k < n) : (prR M n k).set k 0 = prR M n k := by
 unfold prR
 rw [List.set_append_right _ _ (by simp; omega), List.length_take, Nat.min_eq_left (by omega), Nat.sub_self]
 rw [show n - k = (n - (k + 1)) + 1 by omega, List.replicate_succ, List.set_cons_zero]
theorem kT {X : List Int} {k : Nat} {w : Int} (h : k < X.length) : (qA (X.set k w))[k]? = some [I w] := by simp [qA, h]
theorem zsD {X : List (List EV)} {K L n m1 m2 : Nat} (e1 : m1 = K) (e2 : m2 = L) : [PO.row X, .row (List.replicate m1 [I 0]), .row (List.replicate m2 [I 0]), .row [[.psl 1 m1, .psl 2 m2]]] = [PO.row X, .row (qA (rdJ K n 0)), .row (qA (List.replicate L 0)), .row [[.psl 1 K, .psl 2 L]]] := by
 subst e1; subst e2; rw [zst, zaT, zaT]
theorem toN {K j : Nat} (h : j < K) : ((K : Int) - 1 - (j : Int)).toNat = K - 1 - j := by omega
theorem kH {k : Nat} (X : List (List Int × List Int)) : PO.okL k (.row (jo X)) := fun r hr x hx => by
 obtain ⟨q, _, rfl⟩ := List.mem_map.1 hr
 simp at hx
 rcases hx with rfl | rfl <;> trivial
theorem getD_in {l : List (List (List UInt8))} {k : Nat} (h : k < l.length) : l.getD k [] ∈ l ∧ l.getD k [] = l[k] := by
 have e : l.getD k [] = l[k] := by simp [h]
 exact ⟨e ▸ List.getElem_mem h, e⟩
theorem f89 (c : Cod) (l : List (List (List UInt8))) (p : Nat) (hc : jA c = true) (hl : l.length ≤ 3) (hl0 : 0 < l.length) (hcp : ∀ g ∈ l, jX c g = true) (hp : p < 5) : ACall Tryz.prog G 89 [.agg (qK c), qN l, ei (p : Int)] (.sl ((jl c l p).map jg)) := by
 have hcb := wI hc
 have hpK := zkS hcb.1.2
 refine zS Tryz.func89 rfl (by kernel_rfl) rfl ?_
 refine zl (zh (zg rfl rfl (jf rfl (zY rfl)) (zg rfl rfl (zn rfl rfl) (zo (zf (zl (zh (zg rfl rfl (zn rfl rfl) (zo (zf (zl ?_)))))))))))
 refine zl (zh (zg rfl rfl (zn rfl rfl) (zo (zf (zB ?_)))))
 refine qx (ι := { k : Nat // k ≤ c.fields.length }) (fun k => ⟨Tryz.f89.ntmps, frL [(1, .pub (qN l)), (2, I (p : Int)), (3, .pub (.ptr (qK c))), (7, I ((10 ^ k.1 : Nat) : Int)), (8, I (k.1 : Int))], []⟩) (fun k => c.fields.length - k.1) (⟨0, by omega⟩) ?_ ?_
 ·
  exact zt _ ⟨rfl, rfl, rfl, rfl, rfl, trivial⟩ (rfl)
 ·
  rintro ⟨k, hk⟩
  dsimp only
  refine zl (zl (zh (zg rfl rfl (zi rfl rfl) (zg rfl rfl (zu rfl rfl jS) (zg rfl rfl (zA rfl rfl rfl zaf) (zg rfl rfl (qh rfl rfl rfl Tryz.underlying22) (zg rfl rfl (qi rfl rfl rfl) (zo (zf (zx rfl (fun h_0 => ?_) (fun h_0 => ?_)))))))))))
  ·
   have hlt : k < c.fields.length := by simpa using h_0
   have hpw := zkS (K := k) (by omega)
   have hpz : (0 : Int) ≤ ((10 ^ k : Nat) : Int) ∧ ((10 ^ k : Nat) : Int) ≤ 1000 := ⟨Int.natCast_nonneg _, Int.ofNat_le.2 hpw⟩
   refine zC (zf (zl (zB (zh (zg rfl rfl (zi rfl rfl) (zg rfl rfl (zc9 rfl rfl rfl ⟨Int.le_trans (by omega) (Int.mul_nonneg (by omega) hpz.1), Int.le_trans (Int.mul_le_mul_of_nonneg_left hpz.2 (by omega)) (by omega)⟩) (zg rfl rfl (zn rfl rfl) (zo (zD (zf (zh ?_)))))))))))
   refine zg rfl rfl (zi rfl rfl) (zg rfl rfl (zV rfl rfl rfl ⟨(by omega), (by omega)⟩) (zg rfl rfl (zn rfl rfl) (zo ?_)))
   exact ⟨⟨k + 1, by omega⟩, by dsimp only; omega, zt _ ⟨rfl, rfl, rfl, (congrArg I (by rw [Nat.pow_succ]; omega)), rfl, trivial⟩ (rfl)⟩
  ·
   have hge : c.fields.length ≤ k := by simpa using h_0
   have hk2 : k = c.fields.length := by omega
   refine qp (zL (zL (qw (zf (zl (zh (zg rfl rfl (zn rfl rfl) (zo (zf (zl (zl ?_)))))))))))
   refine zh (zg rfl rfl (zn rfl rfl) (zo (zf (zB ?_))))
   refine qy (ku 9 rfl) ?_
   refine qx (ι := { n : Nat // n ≤ 10 ^ c.fields.length }) (fun n => ⟨Tryz.f89.ntmps, frL [(1, .pub (qN l)), (2, I (p : Int)), (3, .pub (.ptr (qK c))), (7, I ((10 ^ c.fields.length : Nat) : Int)), (9, .psl 0 (jV c l p n.1).length), (10, I (n.1 : Int))], [.row (jo (jV c l p n.1))]⟩) (fun n => 10 ^ c.fields.length - n.1) (⟨0, Nat.zero_le _⟩) ?_ ?_
   ·
    exact zt _ ⟨rfl, rfl, rfl, (congrArg (fun z : Nat => I ((10 ^ z : Nat) : Int)) hk2), rfl, rfl, trivial⟩ (rfl)
   ·
    rintro ⟨n, hn⟩
    dsimp only
    refine zl (zl (zh (zg rfl rfl (zi rfl rfl) (zg rfl rfl (zi rfl rfl) (zg rfl rfl (qi rfl rfl rfl) (zo (zf (zx rfl (fun h_1 => ?_) (fun h_1 => ?_)))))))))
    ·
     have hn10 : n < 10 ^ c.fields.length := by simp only [decide_eq_true_eq] at h_1; omega
     refine zC (zf (zl (zB (zl ?_))))
     refine qy wX ?_
     refine qy wX ?_
     refine qy wX ?_
     refine wR (fun _ => True) (fun k => match k with | 0 => .stable | 1 => .stable | 2 => .stable | 3 => .own 1 | 4 => .stable | 5 => .stable | 6 => .own 2 | 7 => .rd [1, 2] | 8 => .own 3 | 9 => .writes | _ => .here) mixed (by kernel_rfl) rfl (by kernel_rfl) trivial ?_
     refine jY rfl rfl (fun m hm => zu rfl rfl jS) (jY rfl rfl (fun m hm => zA rfl rfl rfl zaf) (jY rfl rfl (fun m hm => qh rfl rfl rfl Tryz.underlying22) ?_))
     refine zfR rfl rfl (zao rfl rfl Tryz.underlying23 ti3 rfl rfl rfl (zs := [.int .i64 0]) rfl rfl rfl (by simp; omega) (by simp; omega) (by decide) rfl) ?_
     refine jY rfl rfl (fun m hm => zq rfl rfl) (jY rfl rfl (fun m hm => qh rfl rfl rfl Tryz.underlying26) ?_)
     refine zfR rfl rfl (zao rfl rfl Tryz.underlying23 ti3 rfl rfl rfl (zs := [.int .i64 0]) rfl rfl rfl (by simp; omega) (by simp; omega) (by decide) rfl) ?_
     refine zkl [1, 2] rfl rfl (fun m hm hC => zfb (cs := [_, _]) rfl zld rfl ⟨_, _, rfl, zbo rfl ((hm.one 1 rfl).trans rfl) (by simp), ⟨_, _, rfl, zbo rfl ((hm.one 2 rfl).trans rfl) (by simp), rfl⟩⟩ (by rfl) (by simp [ofV])) ?_
     refine zfR rfl rfl (zcf rfl zgv rfl rfl rfl) ?_
     refine zau rfl rfl (ji rfl rfl rfl rfl rfl rfl (zj7 rfl) xZ (by rfl) (by rfl)) trivial (wQ (zf (zl (zh (zg rfl rfl (zi rfl rfl) (zg rfl rfl (zn rfl rfl) (zg rfl rfl (zn rfl rfl) (zo (zf (zl (zl ?_)))))))))))
     refine zh (zg rfl rfl (zu rfl rfl jS) (zg rfl rfl (zA rfl rfl rfl zaf) (zg rfl rfl (qh rfl rfl rfl Tryz.underlying22) (zg rfl rfl (ze1 rfl rfl rfl ⟨by simp; omega, by simp; omega⟩) (zg rfl rfl (zn rfl rfl) (zo (zf (zB ?_))))))))
     refine qx (ι := { j : Nat // j ≤ c.fields.length }) (fun j => ⟨Tryz.f89.ntmps, frL [(1, .pub (qN l)), (2, I (p : Int)), (3, .pub (.ptr (qK c))), (7, I ((10 ^ c.fields.length : Nat) : Int)), (9, .psl 0 (jV c l p n).length), (10, I (n : Int)), (11, .pp 3 1 0 0), (12, I ((n : Int) / (10 ^ j.1 : Nat))), (13, I (smJ n j.1)), (14, I ((c.fields.length : Int) - 1 - (j.1 : Int)))], [.row (jo (jV c l p n)), .row (qA (rdJ c.fields.length n j.1)), .row (qA (List.replicate l.length 0)), .row [[.psl 1 c.fields.length, .psl 2 l.length]]]⟩) (fun j => c.fields.length - j.1) (⟨0, by omega⟩) ?_ ?_
     ·
      exact zt _ ⟨rfl, rfl, rfl, rfl, rfl, rfl, rfl, (congrArg I (by simp)), rfl, (congrArg I (by simp)), trivial⟩ (zsD (by simp) (by simp))
     ·
      rintro ⟨j, hj⟩
      dsimp only
      refine zl (zl (zh (zg rfl rfl (zi rfl rfl) (zg rfl rfl (zbd rfl rfl rfl) (zo (zf (zx rfl (fun h_2 => ?_) (fun h_2 => ?_))))))))
      ·
       have hj : j < c.fields.length := by simp only [decide_eq_true_eq] at h_2; omega
       have hd := zsi n j
       have hsb := znC n j
       refine zC (zf (zl (zB (zh (zg rfl rfl (qE rfl rfl rfl rfl wK) (zg rfl rfl (zK rfl rfl rfl rfl rfl rfl jO) (zg rfl rfl (zi rfl rfl) (zg rfl rfl (zi rfl rfl) (zg rfl rfl (yA rfl rfl rfl ⟨hd.1, by decide⟩) (zg rfl rfl (zi rfl rfl) (zg rfl rfl (zi rfl rfl) ?_)))))))))))
       refine zg rfl rfl (yA rfl rfl rfl ⟨hd.1, by decide⟩) (zg rfl rfl (zV rfl rfl rfl ⟨(by omega), (by omega)⟩) (zg rfl rfl (zi rfl rfl) (zg rfl rfl (zcj rfl rfl rfl ⟨hd.1, Int.le_trans hd.2 (by omega), by decide⟩) (zg rfl rfl (qc rfl rfl rfl rfl (by rw [qm, zia]) jv (by omega) (by omega) (jk _)) (jb rfl (qG (r := [I ((rdJ c.fields.length n j).getD (c.fields.length - 1 - j) 0)]) rfl rfl rfl rfl (by rw [qm, zia]) (by rw [toN hj]; exact vk (by rw [zia]; omega)) (jG rfl) ty3 (by rfl) (by exact Nat.le_of_ble_eq_true rfl)) (zg rfl rfl (zn rfl rfl) (zg rfl rfl (zn rfl rfl) (zo (zD (zf (zh ?_)))))))))))
       refine zg rfl rfl (zi rfl rfl) (zg rfl rfl (ze1 rfl rfl rfl ⟨(by omega), (by omega)⟩) (zg rfl rfl (zn rfl rfl) (zo ?_)))
       exact ⟨⟨j + 1, by omega⟩, by dsimp only; omega, zt _ ⟨rfl, rfl, rfl, rfl, rfl, rfl, rfl, (congrArg I (zqd n j)), rfl, (congrArg I (show (c.fields.length : Int) - 1 - (j : Int) - 1 = (c.fields.length : Int) - 1 - ((j + 1 : Nat) : Int) by omega)), trivial⟩ (congrArg (fun z => [PO.row (jo (jV c l p n)), PO.row z, PO.row (qA (List.replicate l.length 0)), PO.row [[.psl 1 c.fields.length, .psl 2 l.length]]]) ((vz _ _ _ _).trans (congrArg qA (by rw [toN hj]; exact zpu hj))))⟩
      ·
       have hj2 : j = c.fields.length := by simp only [decide_eq_false_iff_not] at h_2; omega
       refine qp (zL (zL (qw (zf (zl (zh (zg rfl rfl (zn rfl rfl) (zo (zf (zl (zl ?_)))))))))))
       refine zh (zg rfl rfl (zn rfl rfl) (zo (zf (zB ?_))))
       refine qx (ι := { kk : Nat // kk ≤ l.length }) (fun kk => ⟨Tryz.f89.ntmps, frL [(1, .pub (qN l)), (2, I (p : Int)), (3, .pub (.ptr (qK c))), (7, I ((10 ^ c.fields.length : Nat) : Int)), (9, .psl 0 (jV c l p n).length), (10, I (n : Int)), (11, .pp 3 1 0 0), (13, I (smJ n c.fields.length)), (15, B (fnK c l p (ql c.fields.length n) kk.1)), (16, I (kk.1 : Int))], [.row (jo (jV c l p n)), .row (qA (ql c.fields.length n)), .row (qA (prR (vY l p (ql c.fields.length n)) l.length kk.1)), .row [[.psl 1 c.fields.length, .psl 2 l.length]]]⟩) (fun kk => l.length - kk.1) (⟨0, by omega⟩) ?_ ?_
       ·
        exact zt _ ⟨rfl, rfl, rfl, rfl, rfl, rfl, rfl, (congrArg (fun z => I (smJ n z)) hj2), rfl, rfl, trivial⟩ ((by rw [hj2, zsE, zog]))
       ·
        rintro ⟨kk, hkk⟩
        dsimp only
        refine zl (zl (zh (zg rfl rfl (zi rfl rfl) (zg rfl rfl (zq rfl rfl) (zg rfl rfl (qh rfl rfl rfl Tryz.underlying26) (zg rfl rfl (qi rfl rfl rfl) (zo (zf (zx rfl (fun h_3 => ?_) (fun h_3 => ?_))))))))))
        ·
         have hkk : kk < l.length := by simpa [qN] using h_3
         have hgi := getD_in hkk
         have hcg := hcp _ hgi.1
         refine zC (zf (zl (zB (zl (zl (zh (zg rfl rfl (zn rfl rfl) (zo (zf (zB ?_))))))))))
         refine qx (ι := { i : Nat // i ≤ c.fields.length + 1 }) (fun i => ⟨Tryz.f89.ntmps, frL [(1, .pub (qN l)), (2, I (p : Int)), (3, .pub (.ptr (qK c))), (7, I ((10 ^ c.fields.length : Nat) : Int)), (9, .psl 0 (jV c l p n).length), (10, I (n : Int)), (11, .pp 3 1 0 0), (13, I (smJ n c.fields.length)), (15, B (fnK c l p (ql c.fields.length n) kk && okK c (l.getD kk []) p (ql c.fields.length n) i.1)), (16, I (kk : Int)), (17, I (i.1 : Int))], [.row (jo (jV c l p n)), .row (qA (ql c.fields.length n)), .row (qA ((prR (vY l p (ql c.fields.length n)) l.length kk).set kk (wsK (l.getD kk []) p (ql c.fields.length n) i.1))), .row [[.psl 1 c.fields.length, .psl 2 l.length]]]⟩) (fun i => c.fields.length + 1 - i.1) (⟨0, by omega⟩) ?_ ?_
         ·
          exact zt _ ⟨rfl, rfl, rfl, rfl, rfl, rfl, rfl, rfl, (congrArg B (by simp [okK])), rfl, rfl, trivial⟩ (congrArg (fun z => [PO.row (jo (jV c l p n)), PO.row (qA (ql c.fields.length n)), PO.row (qA z), PO.row [[.psl 1 c.fields.length, .psl 2 l.length]]]) (zno (qL ..) hkk).symm)
         ·
          rintro ⟨i, hi⟩
          dsimp only
          refine zl (zl (zh (zg rfl rfl (zi rfl rfl) (zg rfl rfl (zu rfl rfl jS) (zg rfl rfl (zA rfl rfl rfl zaf) (zg rfl rfl (qh rfl rfl rfl Tryz.underlying22) (zg rfl rfl (zaq rfl rfl rfl) (zo (zf (zx rfl (fun h_4 => ?_) (fun h_4 => ?_)))))))))))
          ·
           have hiK : i ≤ c.fields.length := by simp at h_4; omega
           have hig : i < (l.getD kk []).length := by have := (zdU hcg).1; omega
           have hw5 : p < ((l.getD kk []).getD i []).length := by rw [znQ hig (fun w hw => zb5 ((zdU hcg).2 w hw))]; exact hp
           have hch : 48 ≤ chF (l.getD kk []) i p ∧ chF (l.getD kk []) i p ≤ 63 := by
            obtain ⟨_, _, _, h1, h2⟩ := zaL hcg hiK hp
            exact ⟨h1, h2⟩
           have hwb := zkn (l.getD kk []) p (ql c.fields.length n) i
           have hwr := zbR (chF (l.getD kk []) i p, vF (ql c.fields.length n) i)
           have hsb := znC n c.fields.length
           refine zC (zf (zl (zB (zl (zh (zg rfl rfl (zi rfl rfl) (zg rfl rfl (yA rfl rfl rfl ⟨(by omega), (by omega)⟩) (zg rfl rfl (zn rfl rfl) (zo (zf (zl ?_)))))))))))
           refine zl (zh (zg rfl rfl (zi rfl rfl) (zg rfl rfl (zu rfl rfl jS) (zg rfl rfl (zA rfl rfl rfl zaf) (zg rfl rfl (qh rfl rfl rfl Tryz.underlying22) (zg rfl rfl (qi rfl rfl rfl) (zo (zf (zx rfl (fun h_5 => ?_) (fun h_5 => ?_))))))))))
           ·
            have hiK2 : i < c.fields.length := by simpa using h_5
            have hcd := zqk (n := n) hiK2
            refine zh (zg rfl rfl (qE rfl rfl rfl rfl wK) (zg rfl rfl (zK rfl rfl rfl rfl rfl rfl jO) (zg rfl rfl (zi rfl rfl) (zg rfl rfl (qc rfl rfl rfl rfl (by rw [qm, wZ]) jv (by omega) (by omega) (jk _)) (zg rfl rfl (zK (c := I ((ql c.fields.length n).getD i 0)) rfl rfl rfl (by rw [qm, wZ]) (vk (by rw [wZ]; omega)) rfl ty3) (zg rfl rfl (zn rfl rfl) (zo (zf (zl ?_)))))))))
            refine qy (zt (mem' := [.row (jo (jV c l p n)), .row (qA (ql c.fields.length n)), .row (qA ((prR (vY l p (ql c.fields.length n)) l.length kk).set kk (wsK (l.getD kk []) p (ql c.fields.length n) i))), .row [[.psl 1 c.fields.length, .psl 2 l.length]]]) [(1, .pub (qN l)), (2, I (p : Int)), (3, .pub (.ptr (qK c))), (7, I ((10 ^ c.fields.length : Nat) : Int)), (9, .psl 0 (jV c l p n).length), (10, I (n : Int)), (11, .pp 3 1 0 0), (13, I (smJ n c.fields.length)), (15, B (fnK c l p (ql c.fields.length n) kk && okK c (l.getD kk []) p (ql c.fields.length n) i)), (16, I (kk : Int)), (17, I (i : Int)), (18, I (vF (ql c.fields.length n) i))] ?_ ?_) ?_
            ·
             exact ⟨rfl, rfl, rfl, rfl, rfl, rfl, rfl, rfl, rfl, rfl, rfl, (congrArg I hcd), trivial⟩
            ·
             exact (rfl)
            refine qX mixed (by kernel_rfl) rfl ?_
            refine zI rfl (zZ rfl rfl wB (by exact Nat.le_of_ble_eq_true rfl)) (zI rfl (zi rfl rfl) (zI rfl (zq rfl rfl) (zI rfl (zi rfl rfl) (zI rfl (zG rfl rfl rfl zbT (by omega) (zlK hkk) yS) (zI rfl (zA rfl rfl rfl zfE) (zI rfl (zi rfl rfl) (zI rfl (zG rfl rfl rfl yH (by omega) (zlN hig) vZ) (zI rfl (zA rfl rfl rfl ty9) (zI rfl (zi rfl rfl) (zI rfl (wE (c := ((l.getD kk []).getD i []).getD p 0) rfl rfl rfl Tryz.underlying9 (by omega) (zjJ hw5)) (zI rfl (zy (av := [_, _, _]) rfl ⟨rfl, rfl, rfl, trivial⟩ (zqO c (chF (l.getD kk []) i p) (vF (ql c.fields.length n) i) (vF (ql c.fields.length n) i) rfl hc hch zlm)) ?_)))))))))))
            refine zI rfl (zq rfl rfl) (zI rfl (zN rfl rfl rfl) (zI rfl (zN rfl rfl rfl) (zI rfl (zn rfl rfl) (zI rfl (zn rfl rfl) (jw (zf ?_))))))
            refine Or.elim (zrn (fnK c l p (ql c.fields.length n) kk && okK c (l.getD kk []) p (ql c.fields.length n) i)) (fun hb => ?_) (fun hb => ?_)
            ·
             refine qy (zt (mem' := [.row (jo (jV c l p n)), .row (qA (ql c.fields.length n)), .row (qA ((prR (vY l p (ql c.fields.length n)) l.length kk).set kk (wsK (l.getD kk []) p (ql c.fields.length n) i))), .row [[.psl 1 c.fields.length, .psl 2 l.length]]]) [(1, .pub (qN l)), (2, I (p : Int)), (3, .pub (.ptr (qK c))), (7, I ((10 ^ c.fields.length : Nat) : Int)), (9, .psl 0 (jV c l p n).length), (10, I (n : Int)), (11, .pp 3 1 0 0), (13, I (smJ n c.fields.length)), (15, B false), (16, I (kk : Int)), (17, I (i : Int)), (19, I (wrN (chF (l.getD kk []) i p, vF (ql c.fields.length n) i))), (20, B (okP c (chF (l.getD kk []) i p, vF (ql c.fields.length n) i)))] ?_ ?_) ?_
             ·
              exact ⟨rfl, rfl, rfl, rfl, rfl, rfl, rfl, rfl, (congrArg B hb), rfl, rfl, rfl, rfl, trivial⟩
             ·
              exact (rfl)
             have he15 : false = (fnK c l p (ql c.fields.length n) kk && okK c (l.getD kk []) p (ql c.fields.length n) (i + 1)) := by rw [zcX, ← Bool.and_assoc, hb]; rfl
             refine wR (fun _ => True) (fun k => match k with | 10 => .stable | 12 => .out | 13 => .stable | 15 => .writes | 16 => .stable | _ => .here) mixed (by kernel_rfl) rfl (by kernel_rfl) trivial ?_
             refine zX rfl rfl (qE rfl rfl rfl rfl jF) (zX rfl rfl (zK rfl rfl rfl rfl rfl rfl jO) (zX rfl rfl (zi rfl rfl) (zX rfl rfl (qE rfl rfl rfl rfl jF) (zX rfl rfl (zK rfl rfl rfl rfl rfl rfl jO) (zX rfl rfl (zi rfl rfl) (zX rfl rfl (qc rfl rfl rfl rfl (by rw [qm, List.length_set, qC (qL ..) (by omega)]) jv (by omega) (by omega) (jk _)) (zX rfl rfl (zK (c := I (wsK (l.getD kk []) p (ql c.fields.length n) i)) rfl rfl rfl (by rw [qm, List.length_set, qC (qL ..) (by omega)]) (kT (by rw [qC (qL ..) (by omega)]; omega)) rfl ty3) (zX rfl rfl (zi rfl rfl) (zX rfl rfl (zV rfl rfl rfl ⟨(by omega), (by omega)⟩) (jY rfl rfl (fun m hm => zi rfl rfl) (zX rfl rfl (zi rfl rfl) ?_)))))))))))
             refine znY rfl rfl ?_
             refine jY rfl rfl (fun m hm => zU rfl rfl (fun h => absurd h (by decide)) (fun _ => rfl)) (zX rfl rfl (qc rfl rfl rfl rfl (by rw [qm, List.length_set, qC (qL ..) (by omega)]) jv (by omega) (by omega) (jk _)) (zau rfl rfl (ji (r := [I (wsK (l.getD kk []) p (ql c.fields.length n) i)]) rfl rfl rfl rfl (by rw [qm, List.length_set, qC (qL ..) (by omega)]) (kT (by rw [qC (qL ..) (by omega)]; omega)) (jG rfl) ty3 (by rfl) (by rfl)) trivial (jY rfl rfl (fun m hm => zn rfl rfl) (wQ (zD (zf (zh (zg rfl rfl (zi rfl rfl) (zg rfl rfl (zV rfl rfl rfl ⟨(by omega), (by omega)⟩) (zg rfl rfl (zn rfl rfl) (zo ?_)))))))))))
             exact ⟨⟨i + 1, by omega⟩, by dsimp only; omega, zt _ ⟨rfl, rfl, rfl, rfl, rfl, rfl, rfl, rfl, (congrArg B he15), rfl, rfl, trivial⟩ (congrArg (fun z => [PO.row (jo (jV c l p n)), PO.row (qA (ql c.fields.length n)), PO.row z, PO.row [[.psl 1 c.fields.length, .psl 2 l.length]]]) ((vz _ _ _ _).trans (congrArg qA (by rw [Int.toNat_natCast, List.set_set]; rfl))))⟩
            ·
             refine qy (zt (mem' := [.row (jo (jV c l p n)), .row (qA (ql c.fields.length n)), .row (qA ((prR (vY l p (ql c.fields.length n)) l.length kk).set kk (wsK (l.getD kk []) p (ql c.fields.length n) i))), .row [[.psl 1 c.fields.length, .psl 2 l.length]]]) [(1, .pub (qN l)), (2, I (p : Int)), (3, .pub (.ptr (qK c))), (7, I ((10 ^ c.fields.length : Nat) : Int)), (9, .psl 0 (jV c l p n).length), (10, I (n : Int)), (11, .pp 3 1 0 0), (13, I (smJ n c.fields.length)), (15, B true), (16, I (kk : Int)), (17, I (i : Int)), (19, I (wrN (chF (l.getD kk []) i p, vF (ql c.fields.length n) i))), (20, B (okP c (chF (l.getD kk []) i p, vF (ql c.fields.length n) i)))] ?_ ?_) ?_
             ·
              exact ⟨rfl, rfl, rfl, rfl, rfl, rfl, rfl, rfl, (congrArg B hb), rfl, rfl, rfl, rfl, trivial⟩
             ·
              exact (rfl)
             have he15 : okP c (chF (l.getD kk []) i p, vF (ql c.fields.length n) i) = (fnK c l p (ql c.fields.length n) kk && okK c (l.getD kk []) p (ql c.fields.length n) (i + 1)) := by rw [zcX, ← Bool.and_assoc, hb]; rfl
             refine wR (fun _ => True) (fun k => match k with | 10 => .stable | 12 => .stable | 13 => .stable | 15 => .writes | 16 => .stable | _ => .here) mixed (by kernel_rfl) rfl (by kernel_rfl) trivial ?_
             refine zX rfl rfl (qE rfl rfl rfl rfl jF) (zX rfl rfl (zK rfl rfl rfl rfl rfl rfl jO) (zX rfl rfl (zi rfl rfl) (zX rfl rfl (qE rfl rfl rfl rfl jF) (zX rfl rfl (zK rfl rfl rfl rfl rfl rfl jO) (zX rfl rfl (zi rfl rfl) (zX rfl rfl (qc rfl rfl rfl rfl (by rw [qm, List.length_set, qC (qL ..) (by omega)]) jv (by omega) (by omega) (jk _)) (zX rfl rfl (zK (c := I (wsK (l.getD kk []) p (ql c.fields.length n) i)) rfl rfl rfl (by rw [qm, List.length_set, qC (qL ..) (by omega)]) (kT (by rw [qC (qL ..) (by omega)]; omega)) rfl ty3) (zX rfl rfl (zi rfl rfl) (zX rfl rfl (zV rfl rfl rfl ⟨(by omega), (by omega)⟩) (jY rfl rfl (fun m hm => zi rfl rfl) (zX rfl rfl (zi rfl rfl) ?_)))))))))))
             refine jY rfl rfl (fun m hm => zi rfl rfl) (jY rfl rfl (fun m hm => zU rfl rfl (fun _ => rfl) (fun h => absurd h (by decide))) (zX rfl rfl (qc rfl rfl rfl rfl (by rw [qm, List.length_set, qC (qL ..) (by omega)]) jv (by omega) (by omega) (jk _)) (zau rfl rfl (ji (r := [I (wsK (l.getD kk []) p (ql c.fields.length n) i)]) rfl rfl rfl rfl (by rw [qm, List.length_set, qC (qL ..) (by omega)]) (kT (by rw [qC (qL ..) (by omega)]; omega)) (jG rfl) ty3 (by rfl) (by rfl)) trivial (jY rfl rfl (fun m hm => zn rfl rfl) (wQ (zD (zf (zh (zg rfl rfl (zi rfl rfl) (zg rfl rfl (zV rfl rfl rfl ⟨(by omega), (by omega)⟩) (zg rfl rfl (zn rfl rfl) ?_)))))))))))
             refine zo ?_
             exact ⟨⟨i + 1, by omega⟩, by dsimp only; omega, zt _ ⟨rfl, rfl, rfl, rfl, rfl, rfl, rfl, rfl, (congrArg B he15), rfl, rfl, trivial⟩ (congrArg (fun z => [PO.row (jo (jV c l p n)), PO.row (qA (ql c.fields.length n)), PO.row z, PO.row [[.psl 1 c.fields.length, .psl 2 l.length]]]) ((vz _ _ _ _).trans (congrArg qA (by rw [Int.toNat_natCast, List.set_set]; rfl))))⟩
           ·
            have hiK2 : c.fields.length ≤ i := by simpa using h_5
            have hcd := zpA (n := n) hcb.1 hiK2
            refine zC (zf (zl ?_))
            refine qy (zt (mem' := [.row (jo (jV c l p n)), .row (qA (ql c.fields.length n)), .row (qA ((prR (vY l p (ql c.fields.length n)) l.length kk).set kk (wsK (l.getD kk []) p (ql c.fields.length n) i))), .row [[.psl 1 c.fields.length, .psl 2 l.length]]]) [(1, .pub (qN l)), (2, I (p : Int)), (3, .pub (.ptr (qK c))), (7, I ((10 ^ c.fields.length : Nat) : Int)), (9, .psl 0 (jV c l p n).length), (10, I (n : Int)), (11, .pp 3 1 0 0), (13, I (smJ n c.fields.length)), (15, B (fnK c l p (ql c.fields.length n) kk && okK c (l.getD kk []) p (ql c.fields.length n) i)), (16, I (kk : Int)), (17, I (i : Int)), (18, I (vF (ql c.fields.length n) i))] ?_ ?_) ?_
            ·
             exact ⟨rfl, rfl, rfl, rfl, rfl, rfl, rfl, rfl, rfl, rfl, rfl, (congrArg I hcd), trivial⟩
            ·
             exact (rfl)
            refine qX mixed (by kernel_rfl) rfl ?_
            refine zI rfl (zZ rfl rfl wB (by exact Nat.le_of_ble_eq_true rfl)) (zI rfl (zi rfl rfl) (zI rfl (zq rfl rfl) (zI rfl (zi rfl rfl) (zI rfl (zG rfl rfl rfl zbT (by omega) (zlK hkk) yS) (zI rfl (zA rfl rfl rfl zfE) (zI rfl (zi rfl rfl) (zI rfl (zG rfl rfl rfl yH (by omega) (zlN hig) vZ) (zI rfl (zA rfl rfl rfl ty9) (zI rfl (zi rfl rfl) (zI rfl (wE (c := ((l.getD kk []).getD i []).getD p 0) rfl rfl rfl Tryz.underlying9 (by omega) (zjJ hw5)) (zI rfl (zy (av := [_, _, _]) rfl ⟨rfl, rfl, rfl, trivial⟩ (zqO c (chF (l.getD kk []) i p) (vF (ql c.fields.length n) i) (vF (ql c.fields.length n) i) rfl hc hch zlm)) ?_)))))))))))
            refine zI rfl (zq rfl rfl) (zI rfl (zN rfl rfl rfl) (zI rfl (zN rfl rfl rfl) (zI rfl (zn rfl rfl) (zI rfl (zn rfl rfl) (jw (zf ?_))))))
            refine Or.elim (zrn (fnK c l p (ql c.fields.length n) kk && okK c (l.getD kk []) p (ql c.fields.length n) i)) (fun hb => ?_) (fun hb => ?_)
            ·
             refine qy (zt (mem' := [.row (jo (jV c l p n)), .row (qA (ql c.fields.length n)), .row (qA ((prR (vY l p (ql c.fields.length n)) l.length kk).set kk (wsK (l.getD kk []) p (ql c.fields.length n) i))), .row [[.psl 1 c.fields.length, .psl 2 l.length]]]) [(1, .pub (qN l)), (2, I (p : Int)), (3, .pub (.ptr (qK c))), (7, I ((10 ^ c.fields.length : Nat) : Int)), (9, .psl 0 (jV c l p n).length), (10, I (n : Int)), (11, .pp 3 1 0 0), (13, I (smJ n c.fields.length)), (15, B false), (16, I (kk : Int)), (17, I (i : Int)), (19, I (wrN (chF (l.getD kk []) i p, vF (ql c.fields.length n) i))), (20, B (okP c (chF (l.getD kk []) i p, vF (ql c.fields.length n) i)))] ?_ ?_) ?_
             ·
              exact ⟨rfl, rfl, rfl, rfl, rfl, rfl, rfl, rfl, (congrArg B hb), rfl, rfl, rfl, rfl, trivial⟩
             ·
              exact (rfl)
             have he15 : false = (fnK c l p (ql c.fields.length n) kk && okK c (l.getD kk []) p (ql c.fields.length n) (i + 1)) := by rw [zcX, ← Bool.and_assoc, hb]; rfl
             refine wR (fun _ => True) (fun k => match k with | 10 => .stable | 12 => .out | 13 => .stable | 15 => .writes | 16 => .stable | _ => .here) mixed (by kernel_rfl) rfl (by kernel_rfl) trivial ?_
             refine zX rfl rfl (qE rfl rfl rfl rfl jF) (zX rfl rfl (zK rfl rfl rfl rfl rfl rfl jO) (zX rfl rfl (zi rfl rfl) (zX rfl rfl (qE rfl rfl rfl rfl jF) (zX rfl rfl (zK rfl rfl rfl rfl rfl rfl jO) (zX rfl rfl (zi rfl rfl) (zX rfl rfl (qc rfl rfl rfl rfl (by rw [qm, List.length_set, qC (qL ..) (by omega)]) jv (by omega) (by omega) (jk _)) (zX rfl rfl (zK (c := I (wsK (l.getD kk []) p (ql c.fields.length n) i)) rfl rfl rfl (by rw [qm, List.length_set, qC (qL ..) (by omega)]) (kT (by rw [qC (qL ..) (by omega)]; omega)) rfl ty3) (zX rfl rfl (zi rfl rfl) (zX rfl rfl (zV rfl rfl rfl ⟨(by omega), (by omega)⟩) (jY rfl rfl (fun m hm => zi rfl rfl) (zX rfl rfl (zi rfl rfl) ?_)))))))))))
             refine znY rfl rfl ?_
             refine jY rfl rfl (fun m hm => zU rfl rfl (fun h => absurd h (by decide)) (fun _ => rfl)) (zX rfl rfl (qc rfl rfl rfl rfl (by rw [qm, List.length_set, qC (qL ..) (by omega)]) jv (by omega) (by omega) (jk _)) (zau rfl rfl (ji (r := [I (wsK (l.getD kk []) p (ql c.fields.length n) i)]) rfl rfl rfl rfl (by rw [qm, List.length_set, qC (qL ..) (by omega)]) (kT (by rw [qC (qL ..) (by omega)]; omega)) (jG rfl) ty3 (by rfl) (by rfl)) trivial (jY rfl rfl (fun m hm => zn rfl rfl) (wQ (zD (zf (zh (zg rfl rfl (zi rfl rfl) (zg rfl rfl (zV rfl rfl rfl ⟨(by omega), (by omega)⟩) (zg rfl rfl (zn rfl rfl) (zo ?_)))))))))))
             exact ⟨⟨i + 1, by omega⟩, by dsimp only; omega, zt _ ⟨rfl, rfl, rfl, rfl, rfl, rfl, rfl, rfl, (congrArg B he15), rfl, rfl, trivial⟩ (congrArg (fun z => [PO.row (jo (jV c l p n)), PO.row (qA (ql c.fields.length n)), PO.row z, PO.row [[.psl 1 c.fields.length, .psl 2 l.length]]]) ((vz _ _ _ _).trans (congrArg qA (by rw [Int.toNat_natCast, List.set_set]; rfl))))⟩
            ·
             refine qy (zt (mem' := [.row (jo (jV c l p n)), .row (qA (ql c.fields.length n)), .row (qA ((prR (vY l p (ql c.fields.length n)) l.length kk).set kk (wsK (l.getD kk []) p (ql c.fields.length n) i))), .row [[.psl 1 c.fields.length, .psl 2 l.length]]]) [(1, .pub (qN l)), (2, I (p : Int)), (3, .pub (.ptr (qK c))), (7, I ((10 ^ c.fields.length : Nat) : Int)), (9, .psl 0 (jV c l p n).length), (10, I (n : Int)), (11, .pp 3 1 0 0), (13, I (smJ n c.fields.length)), (15, B true), (16, I (kk : Int)), (17, I (i : Int)), (19, I (wrN (chF (l.getD kk []) i p, vF (ql c.fields.length n) i))), (20, B (okP c (chF (l.getD kk []) i p, vF (ql c.fields.length n) i)))] ?_ ?_) ?_
             ·
              exact ⟨rfl, rfl, rfl, rfl, rfl, rfl, rfl, rfl, (congrArg B hb), rfl, rfl, rfl, rfl, trivial⟩
             ·
              exact (rfl)
             have he15 : okP c (chF (l.getD kk []) i p, vF (ql c.fields.length n) i) = (fnK c l p (ql c.fields.length n) kk && okK c (l.getD kk []) p (ql c.fields.length n) (i + 1)) := by rw [zcX, ← Bool.and_assoc, hb]; rfl
             refine wR (fun _ => True) (fun k => match k with | 10 => .stable | 12 => .stable | 13 => .stable | 15 => .writes | 16 => .stable | _ => .here) mixed (by kernel_rfl) rfl (by kernel_rfl) trivial ?_
             refine zX rfl rfl (qE rfl rfl rfl rfl jF) (zX rfl rfl (zK rfl rfl rfl rfl rfl rfl jO) (zX rfl rfl (zi rfl rfl) (zX rfl rfl (qE rfl rfl rfl rfl jF) (zX rfl rfl (zK rfl rfl rfl rfl rfl rfl jO) (zX rfl rfl (zi rfl rfl) (zX rfl rfl (qc rfl rfl rfl rfl (by rw [qm, List.length_set, qC (qL ..) (by omega)]) jv (by omega) (by omega) (jk _)) (zX rfl rfl (zK (c := I (wsK (l.getD kk []) p (ql c.fields.length n) i)) rfl rfl rfl (by rw [qm, List.length_set, qC (qL ..) (by omega)]) (kT (by rw [qC (qL ..) (by omega)]; omega)) rfl ty3) (zX rfl rfl (zi rfl rfl) (zX rfl rfl (zV rfl rfl rfl ⟨(by omega), (by omega)⟩) (jY rfl rfl (fun m hm => zi rfl rfl) (zX rfl rfl (zi rfl rfl) ?_)))))))))))
             refine jY rfl rfl (fun m hm => zi rfl rfl) (jY rfl rfl (fun m hm => zU rfl rfl (fun _ => rfl) (fun h => absurd h (by decide))) (zX rfl rfl (qc rfl rfl rfl rfl (by rw [qm, List.length_set, qC (qL ..) (by omega)]) jv (by omega) (by omega) (jk _)) (zau rfl rfl (ji (r := [I (wsK (l.getD kk []) p (ql c.fields.length n) i)]) rfl rfl rfl rfl (by rw [qm, List.length_set, qC (qL ..) (by omega)]) (kT (by rw [qC (qL ..) (by omega)]; omega)) (jG rfl) ty3 (by rfl) (by rfl)) trivial (jY rfl rfl (fun m hm => zn rfl rfl) (wQ (zD (zf (zh (zg rfl rfl (zi rfl rfl) (zg rfl rfl (zV rfl rfl rfl ⟨(by omega), (by omega)⟩) (zg rfl rfl (zn rfl rfl) ?_)))))))))))
             refine zo ?_
             exact ⟨⟨i + 1, by omega⟩, by dsimp only; omega, zt _ ⟨rfl, rfl, rfl, rfl, rfl, rfl, rfl, rfl, (congrArg B he15), rfl, rfl, trivial⟩ (congrArg (fun z => [PO.row (jo (jV c l p n)), PO.row (qA (ql c.fields.length n)), PO.row z, PO.row [[.psl 1 c.fields.length, .psl 2 l.length]]]) ((vz _ _ _ _).trans (congrArg qA (by rw [Int.toNat_natCast, List.set_set]; rfl))))⟩
          ·
           have hi2 : i = c.fields.length + 1 := by simp at h_4; omega
           have hwb := zkn (l.getD kk []) p (ql c.fields.length n) i
           refine qp (zL (zL (qw (zf ?_))))
           refine qX mixed (by kernel_rfl) rfl ?_
           refine zI rfl (zi rfl rfl) (zI rfl (zi rfl rfl) (jq rfl (fun hg => qE rfl rfl rfl rfl jF) (jq rfl (fun hg => zK rfl (ifp hg) rfl rfl rfl rfl jO) (jq rfl (fun hg => zi rfl rfl) (jq rfl (fun hg => qc rfl (ifp hg) (ifp hg) rfl (by rw [qm, List.length_set, qC (qL ..) (by omega)]) jv (by omega) (by omega) (jk _)) (jq rfl (fun hg => zK (c := I (wsK (l.getD kk []) p (ql c.fields.length n) i)) rfl (ifp hg) rfl (by rw [qm, List.length_set, qC (qL ..) (by omega)]) (kT (by rw [qC (qL ..) (by omega)]; omega)) rfl ty3) (jq rfl (fun hg => zu rfl rfl wo) (jq rfl (fun hg => zA rfl (if_pos hg) rfl ty3) (jq rfl (fun hg => zaq rfl (if_pos hg) (if_pos hg)) (zI rfl (qJ rfl rfl rfl rfl) (zI rfl (zn rfl rfl) ?_)))))))))))
           refine jw (zD (zf (zh (zg rfl rfl (zi rfl rfl) (zg rfl rfl (zV rfl rfl rfl ⟨(by omega), (by omega)⟩) (zg rfl rfl (zn rfl rfl) (zo ?_)))))))
           exact ⟨⟨kk + 1, by omega⟩, by dsimp only; omega, zt _ ⟨rfl, rfl, rfl, rfl, rfl, rfl, rfl, rfl, (congrArg B (by rw [hi2, zqi, zen, zoW hkk, ← hgi.2, Bool.and_assoc])), rfl, trivial⟩ (congrArg (fun z => [PO.row (jo (jV c l p n)), PO.row (qA (ql c.fields.length n)), PO.row (qA z), PO.row [[.psl 1 c.fields.length, .psl 2 l.length]]]) (zcU (qL ..) hkk (by rw [zqF hkk, hi2, zen, hgi.2])))⟩
        ·
         have hge : l.length ≤ kk := by simpa [qN] using h_3
         have hkk2 : kk = l.length := by omega
         refine qp (zL (zL (qw (zf (zl (zh (zg rfl rfl (zi rfl rfl) (zo (zf (zx rfl (fun h_6 => ?_) (fun h_6 => ?_)))))))))))
         ·
          have hcf : zdN c l p (ql c.fields.length n) = true := by rw [← zlB (k := kk) (by omega)]; exact h_6
          have hcy := zot hcf
          have hW : (prR (vY l p (ql c.fields.length n)) l.length kk) = vY l p (ql c.fields.length n) := by rw [hkk2, zh7 (qL ..)]
          have hrow2 : jo (jV c l p n) ++ [[.pub (zO (ql c.fields.length n)), .pub (zO (prR (vY l p (ql c.fields.length n)) l.length kk))]] = jo (jV c l p (n + 1)) := by rw [hcy, ← zfl, hW]
          have hlen2 : (jV c l p n).length + 1 = (jV c l p (n + 1)).length := by rw [hcy]; simp
          refine qy (xg (k := 1) (m := c.fields.length) (c := 3) (i := 0) (j := 0) (rows := (ql c.fields.length n).map fun n => [AV.v (.int .i64 n)]) ?_ ?_ rfl rfl rfl rfl) ?_
          ·
           exact (congrArg (fun z => some (PO.row z)) (yK _))
          ·
           rw [List.length_map, wZ]
          refine qy (xg (k := 2) (m := l.length) (c := 3) (i := 0) (j := 1) (rows := (prR (vY l p (ql c.fields.length n)) l.length kk).map fun n => [AV.v (.int .i64 n)]) ?_ ?_ rfl rfl rfl rfl) ?_
          ·
           exact (congrArg (fun z => some (PO.row z)) (yK _))
          ·
           rw [List.length_map, qC (qL ..) (by omega)]
          refine zh (zg rfl rfl (zH rfl rfl) (zg rfl rfl (qO (cs := [_, _]) rfl rfl rfl rfl rfl (by exact Nat.le_of_ble_eq_true rfl) rfl xZ) (zg rfl rfl (qg (size := 2) (rows := [[_, _]]) rfl Tryz.underlying123 zoG rfl (by decide) rfl (by decide) ⟨_, _, rfl, (zY rfl), rfl⟩ (by rfl) (by simp [ofV]) rfl (by simp)) (jb rfl (vO rfl rfl rfl rfl (zgA _) rfl zqN (zgo _) (by simp) (by have := zc4 c l p n; simp; omega) (by have := zc4 c l p n; unfold maxLen; simp; omega)) (zg rfl rfl (qo rfl rfl) (zo (zD (zf (zh (zg rfl rfl (zi rfl rfl) (zg rfl rfl (zV rfl rfl rfl ⟨(by omega), (by omega)⟩) ?_)))))))))))
          refine zg rfl rfl (zn rfl rfl) (zo ?_)
          first | exact ⟨⟨n + 1, by omega⟩, by dsimp only; omega, Weak.trans (zt (mem' := [.row (jo (jV c l p (n + 1))), .dead, .dead, .row [[.pub (.sl ((ql c.fields.length n).map fun n => [AV.v (.int .i64 n)])), .pub (.sl ((prR (vY l p (ql c.fields.length n)) l.length kk).map fun n => [AV.v (.int .i64 n)]))]]]) [(1, .pub (qN l)), (2, I (p : Int)), (3, .pub (.ptr (qK c))), (7, I ((10 ^ c.fields.length : Nat) : Int)), (9, .psl 0 (jV c l p (n + 1)).length), (10, I ((n + 1 : Nat) : Int))] ⟨rfl, rfl, rfl, rfl, congrArg (EV.psl 0) hlen2, rfl, trivial⟩ (congrArg (fun z => [PO.row z, .dead, .dead, .row [[.pub (.sl ((ql c.fields.length n).map fun n => [AV.v (.int .i64 n)])), .pub (.sl ((prR (vY l p (ql c.fields.length n)) l.length kk).map fun n => [AV.v (.int .i64 n)]))]]]) hrow2)) (vM 1 ⟨trivial, trivial, trivial, trivial, (show 0 < 1 by omega), trivial, trivial⟩ ⟨kH _, trivial⟩)⟩ | exact ⟨⟨n + 1, by omega⟩, by dsimp only; omega, Weak.trans (zt (mem' := [.row (jo (jV c l p (n + 1))), .row (qA (ql c.fields.length n)), .row (qA (prR (vY l p (ql c.fields.length n)) l.length kk)), .row [[.psl 1 c.fields.length, .psl 2 l.length]]]) [(1, .pub (qN l)), (2, I (p : Int)), (3, .pub (.ptr (qK c))), (7, I ((10 ^ c.fields.length : Nat) : Int)), (9, .psl 0 (jV c l p (n + 1)).length), (10, I ((n + 1 : Nat) : Int))] ⟨rfl, rfl, rfl, rfl, congrArg (EV.psl 0) hlen2, rfl, trivial⟩ (congrArg (fun z => [PO.row z, .row (qA (ql c.fields.length n)), .row (qA (prR (vY l p (ql c.fields.length n)) l.length kk)), .row [[.psl 1 c.fields.length, .psl 2 l.length]]]) hrow2)) (vM 1 ⟨trivial, trivial, trivial, trivial, (show 0 < 1 by omega), trivial, trivial⟩ ⟨kH _, trivial⟩)⟩
         ·
          have hcf : zdN c l p (ql c.fields.length n) = false := by rw [← zlB (k := kk) (by omega)]; exact h_6
          have hcy := zqo hcf
          have hrow2 : jo (jV c l p n) = jo (jV c l p (n + 1)) := by rw [hcy]
          have hlen2 : (jV c l p n).length = (jV c l p (n + 1)).length := by rw [hcy]
          refine zC (zD (zf (zh (zg rfl rfl (zi rfl rfl) (zg rfl rfl (zV rfl rfl rfl ⟨(by omega), (by omega)⟩) (zg rfl rfl (zn rfl rfl) (zo ?_)))))))
          first | exact ⟨⟨n + 1, by omega⟩, by dsimp only; omega, Weak.trans (zt (mem' := [.row (jo (jV c l p (n + 1))), .dead, .dead, .row [[.pub (.sl ((ql c.fields.length n).map fun n => [AV.v (.int .i64 n)])), .pub (.sl ((prR (vY l p (ql c.fields.length n)) l.length kk).map fun n => [AV.v (.int .i64 n)]))]]]) [(1, .pub (qN l)), (2, I (p : Int)), (3, .pub (.ptr (qK c))), (7, I ((10 ^ c.fields.length : Nat) : Int)), (9, .psl 0 (jV c l p (n + 1)).length), (10, I ((n + 1 : Nat) : Int))] ⟨rfl, rfl, rfl, rfl, congrArg (EV.psl 0) hlen2, rfl, trivial⟩ (congrArg (fun z => [PO.row z, .dead, .dead, .row [[.pub (.sl ((ql c.fields.length n).map fun n => [AV.v (.int .i64 n)])), .pub (.sl ((prR (vY l p (ql c.fields.length n)) l.length kk).map fun n => [AV.v (.int .i64 n)]))]]]) hrow2)) (vM 1 ⟨trivial, trivial, trivial, trivial, (show 0 < 1 by omega), trivial, trivial⟩ ⟨kH _, trivial⟩)⟩ | exact ⟨⟨n + 1, by omega⟩, by dsimp only; omega, Weak.trans (zt (mem' := [.row (jo (jV c l p (n + 1))), .row (qA (ql c.fields.length n)), .row (qA (prR (vY l p (ql c.fields.length n)) l.length kk)), .row [[.psl 1 c.fields.length, .psl 2 l.length]]]) [(1, .pub (qN l)), (2, I (p : Int)), (3, .pub (.ptr (qK c))), (7, I ((10 ^ c.fields.length : Nat) : Int)), (9, .psl 0 (jV c l p (n + 1)).length), (10, I ((n + 1 : Nat) : Int))] ⟨rfl, rfl, rfl, rfl, congrArg (EV.psl 0) hlen2, rfl, trivial⟩ (congrArg (fun z => [PO.row z, .row (qA (ql c.fields.length n)), .row (qA (prR (vY l p (ql c.fields.length n)) l.length kk)), .row [[.psl 1 c.fields.length, .psl 2 l.length]]]) hrow2)) (vM 1 ⟨trivial, trivial, trivial, trivial, (show 0 < 1 by omega), trivial, trivial⟩ ⟨kH _, trivial⟩)⟩
    ·
     have hn10 : n = 10 ^ c.fields.length := by simp only [decide_eq_false_iff_not] at h_1; omega
     refine qp (zL (zL (qw (zf (zl (zh (zg rfl rfl (zH rfl rfl) (zg rfl rfl (qo rfl rfl) (zo (zf (zP ?_)))))))))))
     exact ⟨.inr rfl, ⟨(jl c l p).map jg, by show some (PO.row _) = some (PO.row _); rw [hn10, zcM]; exact congrArg (fun z => some (PO.row z)) (zgQ _), by rw [hn10, zcM]; simp, rfl⟩⟩
end Go.Av
end
