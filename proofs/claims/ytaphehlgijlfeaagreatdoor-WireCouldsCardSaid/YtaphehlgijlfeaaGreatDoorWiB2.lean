
import Derived.Test.YtaphehlgijlfeaaGreatDoorWiA2
import Derived.Test.YtaphehlgijlfeaaGreatDoorWiK
import Derived.Test.YtaphehlgijlfeaaGreatDoorPlatG
set_option linter.unusedVariables false
set_option linter.unusedSimpArgs false
section
namespace Go.Av
open Go.Proofs
def zts (L : List (List Int)) (p : Nat) : Int := (L.getD 0 []).getD p 0
def agN (L : List (List Int)) (p q j : Nat) : Bool := ((L.drop 1).take j).all fun m => dig (m.getD p 0) q == dig (zts L p) q
def chB (L : List (List Int)) (p q j : Nat) : UInt8 := if agN L p q j then chD (dig (zts L p) q) else 63
def knB (L : List (List Int)) (p j : Nat) : List UInt8 := (List.range 5).map fun q => chB L p q j
def knM (L : List (List Int)) (p j k : Nat) : List UInt8 := (List.range 5).map fun q => chB L p q (if q < k then j + 1 else j)
def knS (L : List (List Int)) (K : Nat) : List (List UInt8) := (List.range K).map fun p => knB L p (L.drop 1).length
theorem zuq (L : List (List Int)) (p j : Nat) : knM L p j 0 = knB L p j := by simp [knM, knB]
theorem zup (L : List (List Int)) (p j : Nat) : knM L p j 5 = knB L p (j + 1) := by
 unfold knM knB
 refine List.map_congr_left fun q hq => ?_
 rw [if_pos (List.mem_range.1 hq)]
theorem zua (L : List (List Int)) (p q : Nat) : agN L p q 0 = true := by simp [agN]
theorem ztB {L : List (List Int)} {p q j : Nat} (h : j < (L.drop 1).length) : agN L p q (j + 1) = (agN L p q j && (dig (((L.drop 1).getD j []).getD p 0) q == dig (zts L p) q)) := by
 have e : (L.drop 1).getD j [] = (L.drop 1)[j] := by rw [List.getD_eq_getElem?_getD, List.getElem?_eq_getElem h, Option.getD_some]
 unfold agN; rw [List.take_succ_eq_append_getElem h, List.all_append, e]; simp
theorem ztF {L : List (List Int)} {p q j : Nat} : ((chB L p q j).toNat : Int) = if agN L p q j then 48 + dig (zts L p) q else 63 := by
 unfold chB
 split
 ·
  exact zhE (jq q)
 ·
  rfl
theorem ztX {L : List (List Int)} {p q j : Nat} (h : j < (L.drop 1).length) (he : ((chB L p q j).toNat : Int) = 48 + dig (((L.drop 1).getD j []).getD p 0) q) : chB L p q (j + 1) = chB L p q j := by
 rw [ztF] at he
 have hd := jq (n := ((L.drop 1).getD j []).getD p 0) q
 cases ha : agN L p q j with
 | false => rw [ha, if_neg (by decide)] at he; omega
 | true =>
  rw [ha, if_pos rfl] at he
  have : agN L p q (j + 1) = true := by rw [ztB h, ha, Bool.true_and, beq_iff_eq]; omega
  unfold chB; rw [ha, this]
theorem ztZ {L : List (List Int)} {p q j : Nat} (h : j < (L.drop 1).length) (he : ¬ ((chB L p q j).toNat : Int) = 48 + dig (((L.drop 1).getD j []).getD p 0) q) : chB L p q (j + 1) = 63 := by
 rw [ztF] at he
 have : agN L p q (j + 1) = false := by
  rw [ztB h]
  cases ha : agN L p q j with
  | false => rfl
  | true =>
   rw [ha, if_pos rfl] at he
   rw [Bool.true_and, beq_eq_false_iff_ne]
   intro e; exact he (by rw [e])
 unfold chB; rw [this]; rfl
theorem zui {L : List (List Int)} {p q j : Nat} (h : j < (L.drop 1).length) : chB L p q (j + 1) = if dig (((L.drop 1).getD j []).getD p 0) q = dig (zts L p) q then chB L p q j else 63 := by
 have e := ztB (p := p) (q := q) h
 by_cases hd : dig (((L.drop 1).getD j []).getD p 0) q = dig (zts L p) q
 ·
  rw [if_pos hd]; unfold chB; rw [e, hd]; simp
 ·
  rw [if_neg hd]; unfold chB; rw [e, beq_eq_false_iff_ne.2 hd, Bool.and_false]; rfl
theorem zuh {L : List (List Int)} {p j k : Nat} (h : k < 5) : (knM L p j k)[k]? = some (chB L p k j) := by simp [knM, h]
theorem ztV {L : List (List Int)} {p j k : Nat} (h : chB L p k (j + 1) = chB L p k j) : knM L p j (k + 1) = knM L p j k := by
 unfold knM
 refine List.map_congr_left fun q hq => ?_
 by_cases e : q = k
 ·
  subst e; rw [if_pos (by omega), if_neg (by omega), h]
 ·
  by_cases e2 : q < k
  ·
   rw [if_pos e2, if_pos (by omega)]
  ·
   rw [if_neg e2, if_neg (by omega)]
theorem zt7 {L : List (List Int)} {p j k : Nat} (h : chB L p k (j + 1) = 63) : (knM L p j k).set k 63 = knM L p j (k + 1) := by
 unfold knM
 refine List.ext_getElem (by simp) fun q h1 h2 => ?_
 rw [List.getElem_set]
 simp only [List.getElem_map, List.getElem_range]
 by_cases e : k = q
 ·
  subst e; rw [if_pos rfl, if_pos (by omega), h]
 ·
  rw [if_neg e]
  by_cases e2 : q < k
  ·
   rw [if_pos e2, if_pos (by omega)]
  ·
   rw [if_neg e2, if_neg (by omega)]
theorem ztM {n : Int} {q : Nat} (h : q < 5) : zqk (qB n) q = dig n q := by
 match q, h with
 | 0, _ => rfl
 | 1, _ => rfl
 | 2, _ => rfl
 | 3, _ => rfl
 | 4, _ => rfl
theorem zuo (L : List (List Int)) (p : Nat) : (qB (zts L p)).chs = knB L p 0 := by
 simp only [knB, chB, zua, if_true]
 rfl
theorem ztr (L : List (List Int)) (K : Nat) : (knS L K).length = K := by simp [knS]
theorem zt4 {L : List (List Int)} {K p : Nat} (h : p < K) : (knS L K).take (p + 1) = (knS L K).take p ++ [knB L p (L.drop 1).length] := by
 rw [List.take_succ_eq_append_getElem (by rw [ztr]; exact h)]; simp [knS]
end Go.Av
end
section
namespace Go.Av
open Go.Proofs
set_option maxRecDepth 100000
set_option maxHeartbeats 1000000
variable {G : Glob}
theorem ztu {m : List Int} {k : Nat} (h : k < m.length) : (m.map fun n => [AV.v (.int .i64 n)])[k]? = some [ei (m.getD k 0)] := by simp [h]; rfl
def kn5 (L : List (List Int)) (p q : Nat) : List UInt8 := (List.range q).map fun q => chB L p q (L.drop 1).length
theorem ztY (L : List (List Int)) (p q : Nat) : kn5 L p q ++ ([((chB L p q (L.drop 1).length).toNat : Int)].map fun n => UInt8.ofNat n.toNat) = kn5 L p (q + 1) := by simp [kn5, List.range_succ]
theorem zur (L : List (List Int)) (i : Nat) : (L.drop 1).getD i [] = L.getD (i + 1) [] := by simp [List.getElem?_drop, Nat.add_comm]
theorem ztw {L : List (List Int)} {P : List Int -> Prop} {k : Nat} (h : ∀ m ∈ L, P m) (hk : k < L.length) : P (L.getD k []) := by
 have e : L.getD k [] = L[k] := by simp [hk]
 rw [e]; exact h _ (List.getElem_mem hk)
theorem ztt {m : List Int} {P : Int -> Prop} {k : Nat} (h : ∀ x ∈ m, P x) (hk : k < m.length) : P (m.getD k 0) := by
 have e : m.getD k 0 = m[k] := by simp [hk]
 rw [e]; exact h _ (List.getElem_mem hk)
theorem ztQ {L : List (List Int)} {K p : Nat} (h : p < K) : zbh ((knS L K).take p) ++ [[SL (knB L p (L.drop 1).length)]] = zbh ((knS L K).take (p + 1)) := by rw [zt4 h]; simp [zbh]
theorem zty {L : List (List Int)} {K p : Nat} (h : p <= K) : ((knS L K).take p).length = p := by rw [List.length_take, ztr]; omega
theorem zuu (L : List (List Int)) (hL : L.length <= 4000000) (hm : ∀ m ∈ L, m.length <= 1000) : ACall Tryz.prog G 28 [jc L, jc L] (.v (.bool true)) := by
 refine zS Tryz.func28 rfl (by kernel_rfl) rfl ?_
 refine zl (zh (zg rfl rfl (zn rfl rfl) (zo (zf (zl (zl (zh (zg rfl rfl (zq rfl rfl) (zg rfl rfl (qh rfl rfl rfl Tryz.underlying30) (zg rfl rfl (zq rfl rfl) (zg rfl rfl (qh rfl rfl rfl Tryz.underlying30) ?_)))))))))))
 refine zg rfl rfl (vg rfl rfl rfl) (zo (zf (zx rfl (fun h_0 => ?_) (fun h_0 => ?_))))
 ·
  exfalso; simp at h_0
 ·
  refine zC (zf (zl (zl (zh (zg rfl rfl (zn rfl rfl) (zo (zf (zB ?_))))))))
  refine qy (ι := { k : Nat // k <= L.length }) (fun k => ⟨Tryz.f28.ntmps, frL [(0, .pub (jc L)), (1, .pub (jc L)), (5, I (k.1 : Int))], []⟩) (fun k => L.length - k.1) (⟨0, by omega⟩) ?_ ?_
  ·
   exact zt _ ⟨rfl, rfl, rfl, trivial⟩ (rfl)
  ·
   rintro ⟨k, hk⟩
   dsimp only
   refine zl (zl (zh (zg rfl rfl (zi rfl rfl) (zg rfl rfl (zq rfl rfl) (zg rfl rfl (qh rfl rfl rfl Tryz.underlying30) (zg rfl rfl (qi rfl rfl rfl) (zo (zf (zx rfl (fun h_1 => ?_) (fun h_1 => ?_))))))))))
   ·
    have hlt : k < L.length := by simpa [jc] using h_1
    refine zC (zf (zl (zB (zl ?_))))
    refine qY mixed (by kernel_rfl) rfl ?_
    refine zH rfl (zq rfl rfl) (zH rfl (zi rfl rfl) (zH rfl (zG rfl rfl rfl zea (by omega) (ints_at hlt) kz) (zH rfl (zA rfl rfl rfl jO) (zH rfl (zq rfl rfl) (zH rfl (zi rfl rfl) (zH rfl (zG rfl rfl rfl zea (by omega) (ints_at hlt) kz) (zH rfl (zA rfl rfl rfl jO) ?_)))))))
    refine zH rfl (zy (av := [_, _]) rfl ⟨rfl, rfl, trivial⟩ (zr7 L[k] (by have := hm _ (List.getElem_mem hlt); omega))) ?_
    refine zH rfl (je rfl rfl) (jw (zf (zx rfl (fun h_2 => ?_) (fun h_2 => ?_))))
    ·
     exfalso; simp at h_2
    ·
     refine zC (zD (zf (zh (zg rfl rfl (zi rfl rfl) (zg rfl rfl (zV rfl rfl rfl ⟨(by omega), (by omega)⟩) (zg rfl rfl (zn rfl rfl) (zo ?_)))))))
     exact ⟨⟨k + 1, by omega⟩, by dsimp only; omega, zt _ ⟨rfl, rfl, rfl, trivial⟩ (rfl)⟩
   ·
    refine qp (zL (zL (qw (zf (zl (zh (zg rfl rfl (zn rfl rfl) (zo (zf (zP ?_))))))))))
    exact ⟨.inr rfl, AVle.refl _⟩
theorem f30 (L : List (List Int)) (K : Nat) (hK : K <= 3) (hL : L.length <= 4000000) (hL0 : 0 < L.length) (hm : ∀ m ∈ L, m.length = K /\ ∀ x ∈ m, 0 <= x /\ x <= 1000000000000) : ACall Tryz.prog G 30 [jc L] (jD (knS L K)) := by
 have hm0 := ztw hm hL0
 refine zS Tryz.func30 rfl (by kernel_rfl) rfl ?_
 refine zl (zh (zg rfl rfl (zn rfl rfl) (zo (zf (zl (zh (zg rfl rfl (zn rfl rfl) (zo (zf (zl (zl ?_)))))))))))
 refine zh (zg rfl rfl (zn rfl rfl) (zo (zf (zB ?_))))
 refine qx (kG 3 rfl) ?_
 refine qy (ι := { p : Nat // p <= K }) (fun p => ⟨Tryz.f30.ntmps, frL [(0, .pub (jc L)), (3, .psl 0 p.1), (4, I (p.1 : Int))], [.row (zbh ((knS L K).take p.1))]⟩) (fun p => K - p.1) (⟨0, Nat.zero_le _⟩) ?_ ?_
 ·
  exact zt _ ⟨rfl, rfl, rfl, trivial⟩ (rfl)
 ·
  rintro ⟨p, hp⟩
  dsimp only
  refine zl (zl (zh (zg rfl rfl (zi rfl rfl) (zg rfl rfl (zq rfl rfl) (zg rfl rfl (zG rfl rfl rfl zea (by omega) (zdm (k := 0) hL0) kz) (zg rfl rfl (zA rfl rfl rfl jO) (zg rfl rfl (qh rfl rfl rfl Tryz.underlying23) (zg rfl rfl (qi rfl rfl rfl) (zo (zf (zx rfl (fun h_0 => ?_) (fun h_0 => ?_))))))))))))
  ·
   have hpK : p < K := by have := hm0.1; simp only [List.length_map, decide_eq_true_eq] at h_0; omega
   have hp0 : p < (L.getD 0 []).length := by rw [hm0.1]; exact hpK
   have hb0 : 0 <= zts L p /\ zts L p <= 1000000000000 := ztt hm0.2 hp0
   refine zC (zf (zl (zB (zl (zh (zg rfl rfl (zn rfl rfl) (zo (zf (zl (zl (zh ?_)))))))))))
   refine zg rfl rfl (zn rfl rfl) (zo (zf (zB ?_)))
   refine qy (ι := { q : Nat // q <= 5 }) (fun q => ⟨Tryz.f30.ntmps, frL [(0, .pub (jc L)), (3, .psl 0 p), (4, I (p : Int)), (5, SL (kn5 L p q.1)), (6, I (q.1 : Int))], [.row (zbh ((knS L K).take p))]⟩) (fun q => 5 - q.1) (⟨0, by omega⟩) ?_ ?_
   ·
    exact zt _ ⟨rfl, rfl, rfl, rfl, rfl, trivial⟩ (rfl)
   ·
    rintro ⟨q, hq⟩
    dsimp only
    refine zl (zl (zh (zg rfl rfl (zi rfl rfl) (zg rfl rfl (qi rfl rfl rfl) (zo (zf (zx rfl (fun h_1 => ?_) (fun h_1 => ?_))))))))
    ·
     have hq : q < 5 := by simp only [decide_eq_true_eq] at h_1; omega
     have hd0 := jq (n := zts L p) q
     refine zC (zf (zl (zB (zl (zh (zg rfl rfl (zq rfl rfl) (zg rfl rfl (zG rfl rfl rfl zea (by omega) (zdm (k := 0) hL0) kz) (zg rfl rfl (zA rfl rfl rfl jO) (zg rfl rfl (zi rfl rfl) (zg rfl rfl (zG rfl rfl rfl jv (by omega) (ztu (k := p) hp0) jC) (zg rfl rfl (zA rfl rfl rfl ty3) ?_)))))))))))
     refine zg rfl rfl (zi rfl rfl) (zg rfl rfl (zy (av := [_, _]) rfl ⟨rfl, rfl, trivial⟩ (f92 (zts L p) q hb0 (by omega))) (zg rfl rfl (zV rfl rfl rfl ⟨(by omega), (by omega)⟩) (zg rfl rfl (y8 rfl rfl Tryz.underlying3 Tryz.underlying5 (wrap_u8 (by omega))) (zg rfl rfl (zn rfl rfl) (zo (zf (zl (zl (zh (zg rfl rfl (zn rfl rfl) (zo ?_)))))))))))
     refine zf (zB ?_)
     refine qy (ι := { i : Nat // i <= (L.drop 1).length }) (fun i => ⟨Tryz.f30.ntmps, frL [(0, .pub (jc L)), (3, .psl 0 p), (4, I (p : Int)), (5, SL (kn5 L p q)), (6, I (q : Int)), (7, .pub (.v (.int .u8 ((chB L p q i.1).toNat : Int)))), (8, I ((i.1 + 1 : Nat) : Int))], [.row (zbh ((knS L K).take p))]⟩) (fun i => (L.drop 1).length - i.1) (⟨0, Nat.zero_le _⟩) ?_ ?_
     ·
      exact zt _ ⟨rfl, rfl, rfl, rfl, rfl, (congrArg (fun z => EV.pub (.v (.int .u8 z))) (by rw [ztF, zua]; rfl)), rfl, trivial⟩ (rfl)
     ·
      rintro ⟨i, hi⟩
      dsimp only
      refine zl (zl (zh (zg rfl rfl (zi rfl rfl) (zg rfl rfl (zq rfl rfl) (zg rfl rfl (qh rfl rfl rfl Tryz.underlying30) (zg rfl rfl (qi rfl rfl rfl) (zo (zf (zx rfl (fun h_2 => ?_) (fun h_2 => ?_))))))))))
      ·
       have hi : i + 1 < L.length := by simp at h_2; omega
       have hid : i < (L.drop 1).length := by simp; omega
       have hmi := ztw hm hi
       have hpi : p < (L.getD (i + 1) []).length := by rw [hmi.1]; exact hpK
       have hbi : 0 <= (L.getD (i + 1) []).getD p 0 /\ (L.getD (i + 1) []).getD p 0 <= 1000000000000 := ztt hmi.2 hpi
       have hce := zui (p := p) (q := q) hid
       rw [zur] at hce
       refine zC (zf (zl (zB (zl ?_))))
       refine qY mixed (by kernel_rfl) rfl ?_
       refine zH rfl (zq rfl rfl) (zH rfl (zi rfl rfl) (zH rfl (zG rfl rfl rfl zea (by omega) (zdm (k := i + 1) hi) kz) (zH rfl (zA rfl rfl rfl jO) (zH rfl (zi rfl rfl) (zH rfl (zG rfl rfl rfl jv (by omega) (ztu (k := p) hpi) jC) (zH rfl (zA rfl rfl rfl ty3) (zH rfl (zi rfl rfl) (zH rfl (zy (av := [_, _]) rfl ⟨rfl, rfl, trivial⟩ (f92 ((L.getD (i + 1) []).getD p 0) q hbi (by omega))) (zH rfl (zq rfl rfl) (zH rfl (zG rfl rfl rfl zea (by omega) (zdm (k := 0) hL0) kz) (zH rfl (zA rfl rfl rfl jO) ?_)))))))))))
       refine zH rfl (zi rfl rfl) (zH rfl (zG rfl rfl rfl jv (by omega) (ztu (k := p) hp0) jC) (zH rfl (zA rfl rfl rfl ty3) (zH rfl (zi rfl rfl) (zH rfl (zy (av := [_, _]) rfl ⟨rfl, rfl, trivial⟩ (f92 (zts L p) q hb0 (by omega))) (zH rfl (vg rfl rfl rfl) (jw (zf (zx rfl (fun h_3 => ?_) (fun h_3 => ?_)))))))))
       ·
        have hne : ¬ dig ((L.getD (i + 1) []).getD p 0) q = dig (zts L p) q := by simpa using h_3
        have hce2 : (63 : Int) = ((chB L p q (i + 1)).toNat : Int) := by rw [hce, if_neg hne]; rfl
        refine zh (zg rfl rfl (zn rfl rfl) (zo (zD (zf (zh (zg rfl rfl (zi rfl rfl) (zg rfl rfl (zV rfl rfl rfl ⟨(by omega), (by omega)⟩) (zg rfl rfl (zn rfl rfl) (zo ?_)))))))))
        exact ⟨⟨i + 1, by omega⟩, by dsimp only; omega, zt _ ⟨rfl, rfl, rfl, rfl, rfl, (congrArg (fun z => EV.pub (.v (.int .u8 z))) hce2), rfl, trivial⟩ (rfl)⟩
       ·
        have hne : dig ((L.getD (i + 1) []).getD p 0) q = dig (zts L p) q := by simpa using h_3
        have hce2 : ((chB L p q i).toNat : Int) = ((chB L p q (i + 1)).toNat : Int) := by rw [hce, if_pos hne]
        refine zC (zD (zf (zh (zg rfl rfl (zi rfl rfl) (zg rfl rfl (zV rfl rfl rfl ⟨(by omega), (by omega)⟩) (zg rfl rfl (zn rfl rfl) (zo ?_)))))))
        exact ⟨⟨i + 1, by omega⟩, by dsimp only; omega, zt _ ⟨rfl, rfl, rfl, rfl, rfl, (congrArg (fun z => EV.pub (.v (.int .u8 z))) hce2), rfl, trivial⟩ (rfl)⟩
      ·
       have hie : i = (L.drop 1).length := by simp only [List.length_map, decide_eq_false_iff_not] at h_2; rw [List.length_drop] at hi ⊢; omega
       refine qp (zL (zL (qw (zf (zh (zg rfl rfl (zi rfl rfl) (zg rfl rfl (zi rfl rfl) ?_)))))))
       refine zg rfl rfl (qg (size := 1) (rows := [[_]]) rfl Tryz.underlying48 ti5 rfl (by decide) rfl (by decide) ⟨_, _, rfl, (jF rfl), rfl⟩ (by rfl) (by simp [ofV]) rfl (by simp)) ?_
       refine zg rfl rfl (zax (ns := [((chB L p q i).toNat : Int)]) rfl rfl Tryz.underlying48 Tryz.underlying5 Tryz.underlying9) ?_
       refine zg rfl rfl (zcI rfl rfl rfl (by simp [kn5]; omega)) ?_
       refine zg rfl rfl (zn rfl rfl) (zo (zD (zf (zh (zg rfl rfl (zi rfl rfl) (zg rfl rfl (zV rfl rfl rfl ⟨(by omega), (by omega)⟩) (zg rfl rfl (zn rfl rfl) (zo ?_))))))))
       exact ⟨⟨q + 1, by omega⟩, by dsimp only; omega, zt _ ⟨rfl, rfl, rfl, (congrArg SL (by rw [hie]; exact ztY L p q)), rfl, trivial⟩ (rfl)⟩
    ·
     have hq5 : q = 5 := by simp only [decide_eq_false_iff_not] at h_1; omega
     refine qp (zL (zL (qw (zf (zh (zg rfl rfl (zI rfl rfl) (zg rfl rfl (zi rfl rfl) ?_)))))))
     refine zg rfl rfl (qg (size := 1) (rows := [[_]]) rfl Tryz.underlying34 ti9 rfl (by decide) rfl (by decide) ⟨_, _, rfl, (jF rfl), rfl⟩ (by rfl) (by simp [ofV]) rfl (by simp)) ?_
     refine jb rfl (vS rfl rfl rfl rfl (by rw [jW, zty (by omega)]) rfl zrL (xh _) (by simp) (by simp; omega) (by unfold maxLen; simp; omega)) ?_
     refine zg rfl rfl (qo rfl rfl) (zo (zD (zf (zh (zg rfl rfl (zi rfl rfl) (zg rfl rfl (zV rfl rfl rfl ⟨(by omega), (by omega)⟩) (zg rfl rfl (zn rfl rfl) (zo ?_))))))))
     exact ⟨⟨p + 1, by omega⟩, by dsimp only; omega, zt _ ⟨rfl, rfl, rfl, trivial⟩ (congrArg (fun z => [PO.row z]) ((congrArg (fun z => zbh ((knS L K).take p) ++ [[SL z]]) (show kn5 L p q = knB L p (L.drop 1).length by rw [hq5]; rfl)).trans (ztQ hpK)))⟩
  ·
   have hpK : p = K := by have := hm0.1; simp only [List.length_map, decide_eq_false_iff_not] at h_0; omega
   refine qp (zL (zL (qw (zf (zl (zh (zg rfl rfl (zI rfl rfl) (zg rfl rfl (qo rfl rfl) (zo (zf (zP ?_)))))))))))
   exact ⟨.inr rfl, ⟨(knS L K).map fun s => [eS s], by show some (PO.row _) = some (PO.row _); rw [hpK, List.take_of_length_le (by rw [ztr]; exact Nat.le_refl _)]; exact congrArg (fun z => some (PO.row z)) (ztx _), by rw [hpK]; simp [ztr], rfl⟩⟩
end Go.Av
end
section
namespace Go.Av
open Go.Proofs
set_option maxRecDepth 100000
set_option maxHeartbeats 1000000
variable {G : Glob}
theorem zt9 : zau Tryz.prog 48 1 = true := by kernel_rfl
theorem ty5 : tyIs Tryz.prog 5 false 1 = true := by kernel_rfl
theorem ztP (L : List (List Int)) : (((L.map fun m => [zO m]).take (L.map fun m => [zO m]).length).drop (1 : Int).toNat) = (L.drop 1).map fun m => [zO m] := by rw [List.take_length, List.map_drop]; rfl
theorem ztR (l : List UInt8) : ∀ q ∈ l.map ztq, q.length = 1 := fun q hq => by obtain ⟨x, _, rfl⟩ := List.mem_map.1 hq; rfl
theorem zt0 {L : List (List Int)} {p i k : Nat} (h : k < 5) : ((knM L p i k).map ztq)[k]? = some [.pub (.v (.int .u8 ((chB L p k i).toNat : Int)))] := by rw [List.getElem?_map, zuh h]; rfl
theorem zt6 {L : List (List Int)} {p i k : Nat} (h : chB L p k (i + 1) = 63) : ((knM L p i k).map ztq).set k [.pub (.v (.int .u8 63))] = (knM L p i (k + 1)).map ztq := by
 rw [← zt7 h, List.map_set]; rfl
theorem zuk {k : Nat} (l : List (List UInt8)) : PO.okL k (.row (zbh l)) := fun r hr x hx => by
 obtain ⟨q, _, rfl⟩ := List.mem_map.1 hr
 simp at hx; subst hx; trivial
theorem zt1 (n : Int) {k : Nat} (h : k < 5) : 0 <= zqk (qB n) k /\ zqk (qB n) k <= 9 := by rw [ztM h]; exact jq k
def knR (c : Cod) (l : List (List (List UInt8))) : List (List UInt8) := if kJ c l = 0 then knS (xU c l) c.fields.length else []
theorem zt8 (c : Cod) (l : List (List (List UInt8))) (hc : c.fields.length <= 1000 /\ c.turns.length <= 1000) (hl : l.length <= 1000) (hgl : ∀ g ∈ l, g.length <= 1000) (hf : kJ c l ≠ 0) : ACall Tryz.prog G 25 [.agg (qK c), qO l] (.tup [.sl [], ei (kJ c l)]) := by
 refine zS Tryz.func25 rfl (by kernel_rfl) rfl ?_
 refine zl (zh (zg rfl rfl (jf rfl (zY rfl)) (zg rfl rfl (zn rfl rfl) (zg rfl rfl (zn rfl rfl) (zo (zf (zl (zh (zg rfl rfl (zZ rfl rfl wH (by exact zLb rfl)) (zg rfl rfl (zq rfl rfl) (zg rfl rfl (zy (av := [_, _]) rfl ⟨rfl, rfl, trivial⟩ (f85 c l hc hl hgl)) ?_)))))))))))
 refine zg rfl rfl (zq rfl rfl) (zg rfl rfl (zN rfl rfl rfl) (zg rfl rfl (zN rfl rfl rfl) (zg rfl rfl (zW rfl rfl) (zg rfl rfl (zn rfl rfl) (zo (zf (zl (zl (zh (zg rfl rfl (zi rfl rfl) (zg rfl rfl (vg rfl rfl rfl) ?_)))))))))))
 refine zo (zf (zx rfl (fun h_0 => ?_) (fun h_0 => ?_)))
 ·
  refine zl (zh (zg rfl rfl (zi rfl rfl) (zg rfl rfl (zn rfl rfl) (zg rfl rfl (zn rfl rfl) (zo (zf (zP (zQ ?_))))))))
  exact ⟨.inr rfl, ⟨_, rfl, ⟨_, _, rfl, AVle.nil, ⟨_, _, rfl, AVle.refl _, rfl⟩⟩⟩⟩
 ·
  exfalso; simp at h_0; exact hf h_0
theorem zuj (c : Cod) (l : List (List (List UInt8))) (hc : c.fields.length <= 1000 /\ c.turns.length <= 1000) (hl : l.length <= 1000) (hgl : ∀ g ∈ l, g.length <= 1000) (hf : kJ c l = 0) (L : List (List Int)) (hLd : L = xU c l) : ACall Tryz.prog G 25 [.agg (qK c), qO l] (.tup [jD (knS L c.fields.length), ei 0]) := by
 have hfm := zk5 hf
 have hLb := (zce c l).1
 have hne : xU c l ≠ [] := by rw [(zoA hf).2.1]; exact (zoA hf).2.2
 rw [← hLd] at hfm hLb hne
 have hcb := wI hfm.1
 have hL0 : 0 < L.length := List.length_pos_iff.2 hne
 have hm0 := ztw (P := fun m => m.length = c.fields.length /\ ∀ x ∈ m, 0 <= x /\ x <= 1000000000000) (fun m hm => (hfm.2 m hm).2) hL0
 have hds := ztP L
 have hdl : (L.drop 1).length <= 4000000 := by simp; omega
 refine zS Tryz.func25 rfl (by kernel_rfl) rfl ?_
 refine zl (zh (zg rfl rfl (jf rfl (zY rfl)) (zg rfl rfl (zn rfl rfl) (zg rfl rfl (zn rfl rfl) (zo (zf (zl (zh (zg rfl rfl (zZ rfl rfl wH (by exact zLb rfl)) (zg rfl rfl (zq rfl rfl) (zg rfl rfl (zy (av := [_, _]) rfl ⟨rfl, rfl, trivial⟩ (hLd ▸ f85 c l hc hl hgl)) ?_)))))))))))
 refine zg rfl rfl (zq rfl rfl) (zg rfl rfl (zN rfl rfl rfl) (zg rfl rfl (zN rfl rfl rfl) (zg rfl rfl (zW rfl rfl) (zg rfl rfl (zn rfl rfl) (zo (zf (zl (zl (zh (zg rfl rfl (zi rfl rfl) (zg rfl rfl (vg rfl rfl rfl) ?_)))))))))))
 refine zo (zf (zx rfl (fun h_0 => ?_) (fun h_0 => ?_)))
 ·
  exfalso; rw [hf] at h_0; exact absurd h_0 (by decide)
 ·
  refine zC (zf (zl (zh (zg rfl rfl (zn rfl rfl) (zo (zf (zl (zl (zh (zg rfl rfl (zu rfl rfl jS) (zg rfl rfl (zA rfl rfl rfl zah) ?_)))))))))))
  refine zg rfl rfl (qh rfl rfl rfl Tryz.underlying22) (zg rfl rfl (zi rfl rfl) (zo (zf (zB ?_))))
  refine qx (kG 8 rfl) ?_
  refine qy (ι := { p : Nat // p <= c.fields.length }) (fun p => ⟨Tryz.f25.ntmps, frL [(2, .pub (.ptr (qK c))), (6, .pub (jc L)), (8, .psl 0 p.1), (26, I (c.fields.length : Int)), (27, I (p.1 : Int))], [.row (zbh ((knS L c.fields.length).take p.1))]⟩) (fun p => c.fields.length - p.1) (⟨0, Nat.zero_le _⟩) ?_ ?_
  ·
   exact zt _ ⟨rfl, rfl, rfl, (congrArg (fun x : Nat => I (x : Int)) (List.length_map _)), rfl, trivial⟩ (rfl)
  ·
   rintro ⟨p, hp⟩
   dsimp only
   refine zl (zh (zg rfl rfl (qi rfl rfl rfl) (zo (zf (zl (zx rfl (fun h_1 => ?_) (fun h_1 => ?_)))))))
   ·
    have hpK : p < c.fields.length := by simp only [decide_eq_true_eq] at h_1; omega
    have hp0 : p < (L.getD 0 []).length := by rw [hm0.1]; exact hpK
    have hb0 : 0 <= zts L p /\ zts L p <= 1000000000000 := ztt hm0.2 hp0
    refine zC (zf (zl (zB (zl (zh (zg rfl rfl (zi rfl rfl) (zg rfl rfl (zn rfl rfl) (zo (zf (zl (zh ?_)))))))))))
    refine zg rfl rfl (zq rfl rfl) (zg rfl rfl (zG rfl rfl rfl zea (by omega) (zdm (k := 0) hL0) kz) (zg rfl rfl (zA rfl rfl rfl jO) (zg rfl rfl (zi rfl rfl) (zg rfl rfl (zG rfl rfl rfl jv (by omega) (ztu (k := p) hp0) jC) (zg rfl rfl (zA rfl rfl rfl ty3) (zg rfl rfl (zy (av := [_]) rfl ⟨rfl, trivial⟩ (f86 (zts L p) hb0)) (zg rfl rfl (zy (av := [_]) rfl ⟨rfl, trivial⟩ (zut (qB (zts L p)) (zlN _))) ?_)))))))
    refine jb rfl (ztW rfl rfl rfl Tryz.underlying9 Tryz.underlying48 Tryz.underlying5 (by show 0 < 5; omega) (by show 5 <= 1000000; omega)) ?_
    refine zg rfl rfl (qo rfl rfl) (zo (zf (zl (zl (zh (zg rfl rfl (zq rfl rfl) ?_))))))
    refine zg rfl rfl (zhU rfl rfl rfl rfl zea kz (by omega) (by simp; omega) (by simp)) ?_
    refine zg rfl rfl (qh rfl rfl rfl Tryz.underlying30) (zg rfl rfl (zi rfl rfl) (zo (zf (zB ?_))))
    refine qy (ι := { i : Nat // i <= (L.drop 1).length }) (fun i => ⟨Tryz.f25.ntmps, frL [(2, .pub (.ptr (qK c))), (6, .pub (jc L)), (8, .psl 0 p), (26, I (c.fields.length : Int)), (27, I (p : Int)), (9, I (p : Int)), (10, .psl 1 5), (40, .pub (.sl ((L.drop 1).map fun m => [zO m]))), (41, I ((L.drop 1).length : Int)), (42, I (i.1 : Int))], [.row (zbh ((knS L c.fields.length).take p)), .row ((knB L p i.1).map ztq)]⟩) (fun i => (L.drop 1).length - i.1) (⟨0, Nat.zero_le _⟩) ?_ ?_
    ·
     exact zt _ ⟨rfl, rfl, rfl, rfl, rfl, rfl, rfl, (congrArg (fun z => EV.pub (.sl z)) hds), (congrArg (fun x : Nat => I (x : Int)) ((congrArg List.length hds).trans (List.length_map _))), rfl, trivial⟩ (congrArg (fun z : List UInt8 => [PO.row (zbh ((knS L c.fields.length).take p)), PO.row (z.map ztq)]) (zuo L p))
    ·
     rintro ⟨i, hi⟩
     dsimp only
     refine zl (zh (zg rfl rfl (qi rfl rfl rfl) (zo (zf (zl (zx rfl (fun h_2 => ?_) (fun h_2 => ?_)))))))
     ·
      have hi : i < (L.drop 1).length := by simp only [decide_eq_true_eq] at h_2; omega
      have hmi := ztw (P := fun m => m.length = c.fields.length /\ ∀ x ∈ m, 0 <= x /\ x <= 1000000000000) (L := L.drop 1) (fun m hm => (hfm.2 m (List.mem_of_mem_drop hm)).2) hi
      have hpi : p < ((L.drop 1).getD i []).length := by rw [hmi.1]; exact hpK
      have hbi : 0 <= (((L.drop 1).getD i []).getD p 0) /\ (((L.drop 1).getD i []).getD p 0) <= 1000000000000 := ztt hmi.2 hpi
      refine zC (zf (zl (zB (zl (zh (zg rfl rfl (zG rfl rfl rfl zea (by omega) (zdm (L := L.drop 1) (k := i) hi) kz) (zg rfl rfl (zA rfl rfl rfl jO) (zg rfl rfl (zW rfl rfl) (zo (zf (zl ?_)))))))))))
      refine zh (zg rfl rfl (zq rfl rfl) (zg rfl rfl (zi rfl rfl) (zg rfl rfl (zG rfl rfl rfl jv (by omega) (ztu (k := p) hpi) jC) (zg rfl rfl (zA rfl rfl rfl ty3) (zg rfl rfl (zy (av := [_]) rfl ⟨rfl, trivial⟩ (f86 (((L.drop 1).getD i []).getD p 0) hbi)) (zg rfl rfl (zi rfl rfl) (zo (zf (zB ?_)))))))))
      refine qy (ι := { k : Nat // k <= 5 }) (fun k => ⟨Tryz.f25.ntmps, frL [(2, .pub (.ptr (qK c))), (6, .pub (jc L)), (8, .psl 0 p), (26, I (c.fields.length : Int)), (27, I (p : Int)), (9, I (p : Int)), (10, .psl 1 5), (40, .pub (.sl ((L.drop 1).map fun m => [zO m]))), (41, I ((L.drop 1).length : Int)), (42, I (i : Int)), (50, .pub (.agg (eFg (qB (((L.drop 1).getD i []).getD p 0))))), (51, I (k.1 : Int))], [.row (zbh ((knS L c.fields.length).take p)), .row ((knM L p i k.1).map ztq)]⟩) (fun k => 5 - k.1) (⟨0, by omega⟩) ?_ ?_
      ·
       exact zt _ ⟨rfl, rfl, rfl, rfl, rfl, rfl, rfl, rfl, rfl, rfl, rfl, rfl, trivial⟩ (congrArg (fun z : List UInt8 => [PO.row (zbh ((knS L c.fields.length).take p)), PO.row (z.map ztq)]) (zuq L p i).symm)
      ·
       rintro ⟨k, hk⟩
       dsimp only
       refine zl (zh (zg rfl rfl (qi rfl rfl rfl) (zo (zf (zl (zx rfl (fun h_3 => ?_) (fun h_3 => ?_)))))))
       ·
        have hk5 : k < 5 := by simp only [decide_eq_true_eq] at h_3; omega
        have hfb := zt1 (((L.drop 1).getD i []).getD p 0) hk5
        have hfd := ztM (n := (((L.drop 1).getD i []).getD p 0)) hk5
        refine zC (zf (zl (zB (zl (zh (zg rfl rfl (zi rfl rfl) ?_))))))
        refine zg rfl rfl (ztp rfl rfl rfl vw (fun e he => by rw [Tryz.underlying118] at he; cases he; exact ty3) (by omega) (by omega) (by rw [Int.toNat_natCast]; exact zul hk5)) ?_
        refine zg rfl rfl (zn rfl rfl) (zg rfl rfl (zn rfl rfl) (zo (zf (zl (zh (zg rfl rfl (zI rfl rfl) (zg rfl rfl (zi rfl rfl) ?_)))))))
        refine zg rfl rfl (qc rfl rfl rfl rfl (by rw [List.length_map]; rfl) zt9 (by omega) (by omega) (ztR _)) ?_
        refine zg rfl rfl (zK (c := .pub (.v (.int .u8 ((chB L p k i).toNat : Int)))) rfl rfl rfl (by rw [List.length_map]; rfl) (zt0 hk5) rfl ty5) ?_
        refine zg rfl rfl (zi rfl rfl) (zg rfl rfl (zV rfl rfl rfl ⟨(by omega), (by omega)⟩) (zg rfl rfl (y8 rfl rfl Tryz.underlying3 Tryz.underlying5 (wrap_u8 (by omega))) (zg rfl rfl (vg rfl rfl rfl) (zo (zf (zx rfl (fun h_4 => ?_) (fun h_4 => ?_)))))))
        ·
         have hcd := zt6 (ztZ (p := p) (q := k) hi (by rw [← hfd]; simpa using h_4))
         refine zh (zg rfl rfl (zI rfl rfl) (zg rfl rfl (zi rfl rfl) ?_))
         refine zg rfl rfl (qc rfl rfl rfl rfl (by rw [List.length_map]; rfl) zt9 (by omega) (by omega) (ztR _)) ?_
         refine jb rfl (qG (r := [.pub (.v (.int .u8 ((chB L p k i).toNat : Int)))]) rfl rfl rfl rfl (by rw [List.length_map]; rfl) (zt0 hk5) (jF rfl) ty5 (by rfl) (by exact zLb rfl)) ?_
         refine zo (zD (zf (zh (zg rfl rfl (zV rfl rfl rfl ⟨(by omega), (by omega)⟩) (zg rfl rfl (zi rfl rfl) (zo ?_))))))
         first | exact ⟨⟨k + 1, by omega⟩, by dsimp only; omega, zt (mem' := [.row (zbh ((knS L c.fields.length).take p)), .row ((knM L p i (k + 1)).map ztq)]) [(2, .pub (.ptr (qK c))), (6, .pub (jc L)), (8, .psl 0 p), (26, I (c.fields.length : Int)), (27, I (p : Int)), (9, I (p : Int)), (10, .psl 1 5), (40, .pub (.sl ((L.drop 1).map fun m => [zO m]))), (41, I ((L.drop 1).length : Int)), (42, I (i : Int)), (50, .pub (.agg (eFg (qB (((L.drop 1).getD i []).getD p 0))))), (51, I ((k + 1 : Nat) : Int))] ⟨rfl, rfl, rfl, rfl, rfl, rfl, rfl, rfl, rfl, rfl, rfl, rfl, trivial⟩ (congrArg (fun z => [PO.row (zbh ((knS L c.fields.length).take p)), PO.row z]) hcs)⟩ | exact ⟨⟨k + 1, by omega⟩, by dsimp only; omega, zt (mem' := [.row (zbh ((knS L c.fields.length).take p)), .row ((knM L p i (k + 1)).map ztq)]) [(2, .pub (.ptr (qK c))), (6, .pub (jc L)), (8, .psl 0 p), (26, I (c.fields.length : Int)), (27, I (p : Int)), (9, I (p : Int)), (10, .psl 1 5), (40, .pub (.sl ((L.drop 1).map fun m => [zO m]))), (41, I ((L.drop 1).length : Int)), (42, I (i : Int)), (50, .pub (.agg (eFg (qB (((L.drop 1).getD i []).getD p 0))))), (51, I ((k + 1 : Nat) : Int))] ⟨rfl, rfl, rfl, rfl, rfl, rfl, rfl, rfl, rfl, rfl, rfl, rfl, trivial⟩ (congrArg (fun z => [PO.row (zbh ((knS L c.fields.length).take p)), PO.row z]) hcd)⟩
        ·
         have hcs := congrArg (List.map ztq) (ztV (ztX (p := p) (q := k) hi (by rw [← hfd]; simpa using h_4))).symm
         refine zC (zD (zf (zh (zg rfl rfl (zV rfl rfl rfl ⟨(by omega), (by omega)⟩) (zg rfl rfl (zi rfl rfl) (zo ?_))))))
         first | exact ⟨⟨k + 1, by omega⟩, by dsimp only; omega, zt (mem' := [.row (zbh ((knS L c.fields.length).take p)), .row ((knM L p i (k + 1)).map ztq)]) [(2, .pub (.ptr (qK c))), (6, .pub (jc L)), (8, .psl 0 p), (26, I (c.fields.length : Int)), (27, I (p : Int)), (9, I (p : Int)), (10, .psl 1 5), (40, .pub (.sl ((L.drop 1).map fun m => [zO m]))), (41, I ((L.drop 1).length : Int)), (42, I (i : Int)), (50, .pub (.agg (eFg (qB (((L.drop 1).getD i []).getD p 0))))), (51, I ((k + 1 : Nat) : Int))] ⟨rfl, rfl, rfl, rfl, rfl, rfl, rfl, rfl, rfl, rfl, rfl, rfl, trivial⟩ (congrArg (fun z => [PO.row (zbh ((knS L c.fields.length).take p)), PO.row z]) hcs)⟩ | exact ⟨⟨k + 1, by omega⟩, by dsimp only; omega, zt (mem' := [.row (zbh ((knS L c.fields.length).take p)), .row ((knM L p i (k + 1)).map ztq)]) [(2, .pub (.ptr (qK c))), (6, .pub (jc L)), (8, .psl 0 p), (26, I (c.fields.length : Int)), (27, I (p : Int)), (9, I (p : Int)), (10, .psl 1 5), (40, .pub (.sl ((L.drop 1).map fun m => [zO m]))), (41, I ((L.drop 1).length : Int)), (42, I (i : Int)), (50, .pub (.agg (eFg (qB (((L.drop 1).getD i []).getD p 0))))), (51, I ((k + 1 : Nat) : Int))] ⟨rfl, rfl, rfl, rfl, rfl, rfl, rfl, rfl, rfl, rfl, rfl, rfl, trivial⟩ (congrArg (fun z => [PO.row (zbh ((knS L c.fields.length).take p)), PO.row z]) hcd)⟩
       ·
        have hk5 : k = 5 := by simp only [decide_eq_false_iff_not] at h_3; omega
        refine qp (zL (zL (qw (zD (zf (zh (zg rfl rfl (zV rfl rfl rfl ⟨(by omega), (by omega)⟩) (zg rfl rfl (zi rfl rfl) (zo ?_)))))))))
        exact ⟨⟨i + 1, by omega⟩, by dsimp only; omega, zt _ ⟨rfl, rfl, rfl, rfl, rfl, rfl, rfl, rfl, rfl, rfl, trivial⟩ (congrArg (fun z : List UInt8 => [PO.row (zbh ((knS L c.fields.length).take p)), PO.row (z.map ztq)]) (show knM L p i k = knB L p (i + 1) by rw [hk5, zup]))⟩
     ·
      have hie : i = (L.drop 1).length := by simp only [decide_eq_false_iff_not] at h_2; omega
      have hrow : zbh ((knS L c.fields.length).take p) ++ [[SL (knB L p i)]] = zbh ((knS L c.fields.length).take (p + 1)) := by rw [hie]; exact ztQ hpK
      refine qp (zL (zL (qw (zf (zh (zg rfl rfl (zI rfl rfl) (zg rfl rfl (zI rfl rfl) (zg rfl rfl (ztJ (l := knB L p i) rfl rfl rfl rfl Tryz.underlying48 Tryz.underlying5 Tryz.underlying9) ?_))))))))
      refine zg rfl rfl (qg (size := 1) (rows := [[_]]) rfl Tryz.underlying34 ti9 rfl (by decide) rfl (by decide) ⟨_, _, rfl, (jF rfl), rfl⟩ (by rfl) (by simp [ofV]) rfl (by simp)) ?_
      refine jb rfl (vS rfl rfl rfl rfl (by rw [jW, zty (by omega)]) rfl zrL (xh _) (by simp) (by simp; omega) (by unfold maxLen; simp; omega)) ?_
      refine zg rfl rfl (qo rfl rfl) (zo (zD (zf (zh (zg rfl rfl (zV rfl rfl rfl ⟨(by omega), (by omega)⟩) (zg rfl rfl (zi rfl rfl) (zo ?_)))))))
      exact ⟨⟨p + 1, by omega⟩, by dsimp only; omega, Weak.trans (zt (mem' := [.row (zbh ((knS L c.fields.length).take (p + 1))), .row ((knB L p i).map ztq)]) [(2, .pub (.ptr (qK c))), (6, .pub (jc L)), (8, .psl 0 (p + 1)), (26, I (c.fields.length : Int)), (27, I ((p + 1 : Nat) : Int))] ⟨rfl, rfl, rfl, rfl, rfl, trivial⟩ (congrArg (fun z => [PO.row z, PO.row ((knB L p i).map ztq)]) hrow)) (vO 1 ⟨trivial, trivial, (show 0 < 1 by omega), trivial, trivial, trivial⟩ ⟨zuk _, trivial⟩)⟩
   ·
    have hpK : p = c.fields.length := by simp only [decide_eq_false_iff_not] at h_1; omega
    refine qp (zL (zL (qw (zf (zl (zh (zg rfl rfl (zI rfl rfl) (zg rfl rfl (qo rfl rfl) (zg rfl rfl (zn rfl rfl) (zo (zf ?_)))))))))))
    refine zP ?_
    exact ⟨.inr rfl, ⟨_, rfl, ⟨_, _, rfl, ⟨(knS L c.fields.length).map fun s => [eS s], by show some (PO.row _) = some (PO.row _); rw [hpK, List.take_of_length_le (by rw [ztr]; exact Nat.le_refl _)]; exact congrArg (fun z => some (PO.row z)) (ztx _), by rw [hpK]; simp [ztr], rfl⟩, ⟨_, _, rfl, AVle.refl _, rfl⟩⟩⟩⟩
theorem f25 (c : Cod) (l : List (List (List UInt8))) (hc : c.fields.length <= 1000 /\ c.turns.length <= 1000) (hl : l.length <= 1000) (hgl : ∀ g ∈ l, g.length <= 1000) : ACall Tryz.prog G 25 [.agg (qK c), qO l] (.tup [jD (knR c l), ei (kJ c l)]) := by
 by_cases h : kJ c l = 0
 ·
  have := zuj (G := G) c l hc hl hgl h (xU c l) rfl
  unfold knR
  rw [if_pos h, h]
  exact this
 ·
  have := zt8 (G := G) c l hc hl hgl h
  unfold knR
  rw [if_neg h]
  exact this
end Go.Av
end
section
namespace Go.Av
open Go.Proofs
set_option maxRecDepth 100000
set_option maxHeartbeats 1000000
variable {G : Glob}
theorem zus (a b : List (List Int)) (h : b = a) (hL : a.length <= 4000000) (hm : ∀ m ∈ a, m.length <= 1000) : ACall Tryz.prog G 28 [jc a, jc b] (.v (.bool true)) := by subst h; exact zuu b hL hm
theorem ztS {c : Cod} {l : List (List (List UInt8))} (h : kJ c l ≠ 0) : knR c l = [] := by unfold knR; rw [if_neg h]
theorem zum {c : Cod} {l : List (List (List UInt8))} (h : kJ c l = 0) : knR c l = knS (xU c l) c.fields.length := by unfold knR; rw [if_pos h]
theorem ztD (c : Cod) (l : List (List (List UInt8))) : (knR c l).length <= c.fields.length := by
 unfold knR; split
 ·
  rw [ztr]; exact Nat.le_refl _
 ·
  exact Nat.zero_le _
theorem zt3 {c : Cod} {l : List (List (List UInt8))} (h : yT c l ≠ 0) : xU c l = [] := by unfold xU; rw [if_neg h]
theorem zt2 {c : Cod} {l : List (List (List UInt8))} (h : yT c l = 0) (h2 : kC c l = []) : xU c l = [] := by unfold xU; rw [if_pos h, h2]
theorem zuf (hk : KN G) (c : Cod) (l : List (List (List UInt8))) (hA : yT c l ≠ 0) : ACall Tryz.prog G 3 [.agg (qK c), qO l] (.v (.bool true)) := by
 have hLb := (zce c l).1
 have hkb := ztD c l
 refine zS Tryz.func3 rfl (by kernel_rfl) rfl ?_
 refine zl (zh (zg rfl rfl (jf rfl (zY rfl)) (zg rfl rfl (zn rfl rfl) (zo (zf (zl (zl (zh (zg rfl rfl (zZ rfl rfl wH (by exact zLb rfl)) (zg rfl rfl (zy (av := [_]) rfl ⟨rfl, trivial⟩ (zoc c (b := y7 c) rfl)) (zg rfl rfl (je rfl rfl) ?_)))))))))))
 refine zg rfl rfl (zi rfl rfl) (zk rfl rfl rfl (fun hg => zq rfl rfl) (zk rfl rfl rfl (fun hg => zy (av := [_]) rfl ⟨((if_pos hg)), trivial⟩ (f22 l)) (zk rfl rfl rfl (fun hg => je rfl (if_pos hg)) (zg rfl rfl (qU rfl rfl rfl rfl) (zo (zf (zx rfl (fun h_0 => ?_) (fun h_0 => ?_))))))))
 ·
  refine zl (zh (zg rfl rfl (zy (av := []) rfl trivial hk) (zg rfl rfl (zn rfl rfl) (zo (zf (zP (zQ ?_)))))))
  exact ⟨.inr rfl, AVle.refl _⟩
 ·
  have H := zdN h_0
  have z1 := zav H.1
  have z2 := (zb8 H.2).1
  have z3 := (zb8 H.2).2
  refine zC (zf (zl (zh (zg rfl rfl (zZ rfl rfl wH (by exact zLb rfl)) (zg rfl rfl (zq rfl rfl) (zg rfl rfl (zy (av := [_, _]) rfl ⟨rfl, rfl, trivial⟩ (f24 c l z1 z2 z3)) (zg rfl rfl (zq rfl rfl) (zg rfl rfl (zN rfl rfl rfl) (zg rfl rfl (zN rfl rfl rfl) (zg rfl rfl (zW rfl rfl) (zg rfl rfl (zn rfl rfl) ?_)))))))))))
  refine zo (zf (zl (zh (zg rfl rfl (zZ rfl rfl wH (by exact zLb rfl)) (zg rfl rfl (zq rfl rfl) (zg rfl rfl (zy (av := [_, _]) rfl ⟨rfl, rfl, trivial⟩ (f25 c l z1 z2 z3)) (zg rfl rfl (zq rfl rfl) (zg rfl rfl (zN rfl rfl rfl) (zg rfl rfl (zN rfl rfl rfl) (zg rfl rfl (zW rfl rfl) (zg rfl rfl (zn rfl rfl) ?_)))))))))))
  refine zo (zf (zl (zh (zg rfl rfl (zZ rfl rfl wH (by exact zLb rfl)) (zg rfl rfl (zq rfl rfl) (zg rfl rfl (zy (av := [_, _]) rfl ⟨rfl, rfl, trivial⟩ (f26 c l z1 z2 z3)) (zg rfl rfl (zn rfl rfl) (zo (zf (zl (zh ?_)))))))))))
  refine zg rfl rfl (zn rfl rfl) (zo (zf (zl (zl (zh (zg rfl rfl (zi rfl rfl) (zg rfl rfl (qJ rfl rfl rfl) (zo (zf (zx rfl (fun h_1 => ?_) (fun h_1 => ?_)))))))))))
  ·
   exact absurd (by simpa using h_1) hA
  ·
   refine zC (zf (zl (zl (zh (zg rfl rfl (zi rfl rfl) (zg rfl rfl (vg rfl rfl rfl) (zo (zf (zx rfl (fun h_3 => ?_) (fun h_3 => ?_))))))))))
   ·
    refine zl (zh (zg rfl rfl (zi rfl rfl) (zg rfl rfl (zi rfl rfl) (zg rfl rfl (qJ rfl rfl rfl) (zg rfl rfl (zi rfl rfl) (zk rfl rfl rfl (fun hg => zi rfl rfl) (zk rfl rfl rfl (fun hg => zi rfl rfl) (zk rfl rfl rfl (fun hg => qJ rfl (if_pos hg) (if_pos hg)) (zg rfl rfl (qI rfl rfl rfl rfl) (zg rfl rfl (zi rfl rfl) (zk rfl rfl rfl (fun hg => zq rfl rfl) ?_)))))))))))
    refine zk rfl rfl rfl (fun hg => qh rfl rfl (if_pos hg) Tryz.underlying30) (zk rfl rfl rfl (fun hg => zq rfl rfl) (zk rfl rfl rfl (fun hg => qh rfl rfl (if_pos hg) Tryz.underlying34) ?_))
    refine zk rfl rfl rfl (fun hg => zV rfl (ifp hg) (ifp hg) ⟨(by simp; omega), (by simp; omega)⟩) ?_
    refine zk rfl rfl rfl (fun hg => qJ rfl (if_pos hg) rfl) (zg rfl rfl (qI rfl rfl rfl rfl) (zg rfl rfl (zi rfl rfl) (zk rfl rfl rfl (fun hg => zy (av := []) rfl trivial hk) (zg rfl rfl (qI rfl rfl rfl rfl) (zg rfl rfl (zn rfl rfl) (zo (zf (zP (zQ ?_)))))))))
    exact ⟨.inr rfl, AVle.of (congrArg (fun x : Bool => AV.v (Value.bool x)) (by rw [zfb hA, zt3 hA, ztS (by rw [zfb hA]; exact hA)]; simp))⟩
   ·
    exact absurd (by simpa using h_3) hA
theorem zug (hk : KN G) (c : Cod) (l : List (List (List UInt8))) (hA : yT c l = 0) (hN : kC c l = []) : ACall Tryz.prog G 3 [.agg (qK c), qO l] (.v (.bool true)) := by
 have hLb := (zce c l).1
 have hkb := ztD c l
 obtain ⟨q1, q2, q3, q4⟩ := zh6 hA
 refine zS Tryz.func3 rfl (by kernel_rfl) rfl ?_
 refine zl (zh (zg rfl rfl (jf rfl (zY rfl)) (zg rfl rfl (zn rfl rfl) (zo (zf (zl (zl (zh (zg rfl rfl (zZ rfl rfl wH (by exact zLb rfl)) (zg rfl rfl (zy (av := [_]) rfl ⟨rfl, trivial⟩ (zoc c (b := y7 c) rfl)) (zg rfl rfl (je rfl rfl) ?_)))))))))))
 refine zg rfl rfl (zi rfl rfl) (zk rfl rfl rfl (fun hg => zq rfl rfl) (zk rfl rfl rfl (fun hg => zy (av := [_]) rfl ⟨((if_pos hg)), trivial⟩ (f22 l)) (zk rfl rfl rfl (fun hg => je rfl (if_pos hg)) (zg rfl rfl (qU rfl rfl rfl rfl) (zo (zf (zx rfl (fun h_0 => ?_) (fun h_0 => ?_))))))))
 ·
  refine zl (zh (zg rfl rfl (zy (av := []) rfl trivial hk) (zg rfl rfl (zn rfl rfl) (zo (zf (zP (zQ ?_)))))))
  exact ⟨.inr rfl, AVle.refl _⟩
 ·
  have H := zdN h_0
  have z1 := zav H.1
  have z2 := (zb8 H.2).1
  have z3 := (zb8 H.2).2
  refine zC (zf (zl (zh (zg rfl rfl (zZ rfl rfl wH (by exact zLb rfl)) (zg rfl rfl (zq rfl rfl) (zg rfl rfl (zy (av := [_, _]) rfl ⟨rfl, rfl, trivial⟩ (f24 c l z1 z2 z3)) (zg rfl rfl (zq rfl rfl) (zg rfl rfl (zN rfl rfl rfl) (zg rfl rfl (zN rfl rfl rfl) (zg rfl rfl (zW rfl rfl) (zg rfl rfl (zn rfl rfl) ?_)))))))))))
  refine zo (zf (zl (zh (zg rfl rfl (zZ rfl rfl wH (by exact zLb rfl)) (zg rfl rfl (zq rfl rfl) (zg rfl rfl (zy (av := [_, _]) rfl ⟨rfl, rfl, trivial⟩ (f25 c l z1 z2 z3)) (zg rfl rfl (zq rfl rfl) (zg rfl rfl (zN rfl rfl rfl) (zg rfl rfl (zN rfl rfl rfl) (zg rfl rfl (zW rfl rfl) (zg rfl rfl (zn rfl rfl) ?_)))))))))))
  refine zo (zf (zl (zh (zg rfl rfl (zZ rfl rfl wH (by exact zLb rfl)) (zg rfl rfl (zq rfl rfl) (zg rfl rfl (zy (av := [_, _]) rfl ⟨rfl, rfl, trivial⟩ (f26 c l z1 z2 z3)) (zg rfl rfl (zn rfl rfl) (zo (zf (zl (zh ?_)))))))))))
  refine zg rfl rfl (zn rfl rfl) (zo (zf (zl (zl (zh (zg rfl rfl (zi rfl rfl) (zg rfl rfl (qJ rfl rfl rfl) (zo (zf (zx rfl (fun h_1 => ?_) (fun h_1 => ?_)))))))))))
  ·
   refine zl (zh (zg rfl rfl (zZ rfl rfl wH (by exact zLb rfl)) (zg rfl rfl (zq rfl rfl) (zg rfl rfl (zy (av := [_, _]) rfl ⟨rfl, rfl, trivial⟩ (f27 c l q1 q2 q3 q4)) (zg rfl rfl (zW rfl rfl) (zo (zf (zl (zh (zg rfl rfl (zq rfl rfl) (zg rfl rfl (qh rfl rfl rfl Tryz.underlying30) ?_)))))))))))
   refine zg rfl rfl (qJ rfl rfl rfl) (zo (zf (zx rfl (fun h_2 => ?_) (fun h_2 => ?_))))
   ·
    refine zh (zg rfl rfl (zn rfl rfl) (zo (zf (zl (zl (zh (zg rfl rfl (zi rfl rfl) (zg rfl rfl (vg rfl rfl rfl) (zo (zf (zx rfl (fun h_3 => ?_) (fun h_3 => ?_))))))))))))
    ·
     refine zl (zh (zg rfl rfl (zi rfl rfl) (zg rfl rfl (zi rfl rfl) (zg rfl rfl (qJ rfl rfl rfl) (zg rfl rfl (zi rfl rfl) (zk rfl rfl rfl (fun hg => zi rfl rfl) (zk rfl rfl rfl (fun hg => zi rfl rfl) (zk rfl rfl rfl (fun hg => qJ rfl (if_pos hg) (if_pos hg)) (zg rfl rfl (qI rfl rfl rfl rfl) (zg rfl rfl (zi rfl rfl) (zk rfl rfl rfl (fun hg => zq rfl rfl) ?_)))))))))))
     refine zk rfl rfl rfl (fun hg => qh rfl rfl (if_pos hg) Tryz.underlying30) (zk rfl rfl rfl (fun hg => zq rfl rfl) (zk rfl rfl rfl (fun hg => qh rfl rfl (if_pos hg) Tryz.underlying34) ?_))
     refine zk rfl rfl rfl (fun hg => zV rfl (ifp hg) (ifp hg) ⟨(by simp; omega), (by simp; omega)⟩) ?_
     refine zk rfl rfl rfl (fun hg => qJ rfl (if_pos hg) rfl) (zg rfl rfl (qI rfl rfl rfl rfl) (zg rfl rfl (zi rfl rfl) (zk rfl rfl rfl (fun hg => zy (av := []) rfl trivial hk) (zg rfl rfl (qI rfl rfl rfl rfl) (zg rfl rfl (zn rfl rfl) (zo (zf (zP (zQ ?_)))))))))
     exact ⟨.inr rfl, AVle.of (congrArg (fun x : Bool => AV.v (Value.bool x)) (by rw [zfe hA hN, zt2 hA hN, ztS (by rw [zfe hA hN]; decide)]; rfl))⟩
    ·
     exact absurd h_3 (by decide)
   ·
    exfalso; rw [zcb q1 q2 q4, hN] at h_2; simp [jc] at h_2
  ·
   exact absurd hA (by simpa using h_1)
theorem zun (hk : KN G) (c : Cod) (l : List (List (List UInt8))) (hA : yT c l = 0) (hN : kC c l ≠ []) : ACall Tryz.prog G 3 [.agg (qK c), qO l] (.v (.bool true)) := by
 have hLb := (zce c l).1
 have hkb := ztD c l
 obtain ⟨q1, q2, q3, q4⟩ := zh6 hA
 have hE := zp7 hA hN
 have hfm := zk5 hE
 have hcb := wI q1
 have hLb := (zce c l).1
 have hlm := (zce c l).2
 have hfl : zcq c l = xU c l := by rw [zcb q1 q2 q4, (zoA hE).2.1]
 have hne : xU c l ≠ [] := by rw [(zoA hE).2.1]; exact hN
 refine zS Tryz.func3 rfl (by kernel_rfl) rfl ?_
 refine zl (zh (zg rfl rfl (jf rfl (zY rfl)) (zg rfl rfl (zn rfl rfl) (zo (zf (zl (zl (zh (zg rfl rfl (zZ rfl rfl wH (by exact zLb rfl)) (zg rfl rfl (zy (av := [_]) rfl ⟨rfl, trivial⟩ (zoc c (b := y7 c) rfl)) (zg rfl rfl (je rfl rfl) ?_)))))))))))
 refine zg rfl rfl (zi rfl rfl) (zk rfl rfl rfl (fun hg => zq rfl rfl) (zk rfl rfl rfl (fun hg => zy (av := [_]) rfl ⟨((if_pos hg)), trivial⟩ (f22 l)) (zk rfl rfl rfl (fun hg => je rfl (if_pos hg)) (zg rfl rfl (qU rfl rfl rfl rfl) (zo (zf (zx rfl (fun h_0 => ?_) (fun h_0 => ?_))))))))
 ·
  refine zl (zh (zg rfl rfl (zy (av := []) rfl trivial hk) (zg rfl rfl (zn rfl rfl) (zo (zf (zP (zQ ?_)))))))
  exact ⟨.inr rfl, AVle.refl _⟩
 ·
  have H := zdN h_0
  have z1 := zav H.1
  have z2 := (zb8 H.2).1
  have z3 := (zb8 H.2).2
  refine zC (zf (zl (zh (zg rfl rfl (zZ rfl rfl wH (by exact zLb rfl)) (zg rfl rfl (zq rfl rfl) (zg rfl rfl (zy (av := [_, _]) rfl ⟨rfl, rfl, trivial⟩ (f24 c l z1 z2 z3)) (zg rfl rfl (zq rfl rfl) (zg rfl rfl (zN rfl rfl rfl) (zg rfl rfl (zN rfl rfl rfl) (zg rfl rfl (zW rfl rfl) (zg rfl rfl (zn rfl rfl) ?_)))))))))))
  refine zo (zf (zl (zh (zg rfl rfl (zZ rfl rfl wH (by exact zLb rfl)) (zg rfl rfl (zq rfl rfl) (zg rfl rfl (zy (av := [_, _]) rfl ⟨rfl, rfl, trivial⟩ (f25 c l z1 z2 z3)) (zg rfl rfl (zq rfl rfl) (zg rfl rfl (zN rfl rfl rfl) (zg rfl rfl (zN rfl rfl rfl) (zg rfl rfl (zW rfl rfl) (zg rfl rfl (zn rfl rfl) ?_)))))))))))
  refine zo (zf (zl (zh (zg rfl rfl (zZ rfl rfl wH (by exact zLb rfl)) (zg rfl rfl (zq rfl rfl) (zg rfl rfl (zy (av := [_, _]) rfl ⟨rfl, rfl, trivial⟩ (f26 c l z1 z2 z3)) (zg rfl rfl (zn rfl rfl) (zo (zf (zl (zh ?_)))))))))))
  refine zg rfl rfl (zn rfl rfl) (zo (zf (zl (zl (zh (zg rfl rfl (zi rfl rfl) (zg rfl rfl (qJ rfl rfl rfl) (zo (zf (zx rfl (fun h_1 => ?_) (fun h_1 => ?_)))))))))))
  ·
   refine zl (zh (zg rfl rfl (zZ rfl rfl wH (by exact zLb rfl)) (zg rfl rfl (zq rfl rfl) (zg rfl rfl (zy (av := [_, _]) rfl ⟨rfl, rfl, trivial⟩ (f27 c l q1 q2 q3 q4)) (zg rfl rfl (zW rfl rfl) (zo (zf (zl (zh (zg rfl rfl (zq rfl rfl) (zg rfl rfl (qh rfl rfl rfl Tryz.underlying30) ?_)))))))))))
   refine zg rfl rfl (qJ rfl rfl rfl) (zo (zf (zx rfl (fun h_2 => ?_) (fun h_2 => ?_))))
   ·
    exfalso; rw [zcb q1 q2 q4] at h_2; simp [jc] at h_2; exact hN h_2
   ·
    refine zC (zf (zl (zl (zh (zg rfl rfl (zi rfl rfl) (zg rfl rfl (vg rfl rfl rfl) (zo (zf (zx rfl (fun h_3 => ?_) (fun h_3 => ?_))))))))))
    ·
     exfalso; rw [hA] at h_3; exact absurd h_3 (by decide)
    ·
     refine zC (zf (zl (zh (zg rfl rfl (zi rfl rfl) (zg rfl rfl (qJ rfl rfl rfl) (zg rfl rfl (zi rfl rfl) (zk rfl rfl rfl (fun hg => zi rfl rfl) (zk rfl rfl rfl (fun hg => qJ rfl (if_pos hg) rfl) (zg rfl rfl (qI rfl rfl rfl rfl) (zg rfl rfl (zi rfl rfl) (zk rfl rfl rfl (fun hg => zq rfl rfl) ?_)))))))))))
     refine zk rfl rfl rfl (fun hg => zq rfl rfl) (zk rfl rfl rfl (fun hg => zy (av := [_, _]) rfl ⟨((if_pos hg)), ((if_pos hg)), trivial⟩ (zus (xU c l) (zcq c l) hfl hLb hlm)) (zg rfl rfl (qI rfl rfl rfl rfl) (zg rfl rfl (zi rfl rfl) (zk rfl rfl rfl (fun hg => zq rfl rfl) (zk rfl rfl rfl (fun hg => zq rfl rfl) ?_)))))
     refine zk rfl rfl rfl (fun hg => zy (av := [_]) rfl ⟨((if_pos hg)), trivial⟩ (f30 (zcq c l) c.fields.length hcb.1.2 (by rw [hfl]; exact hLb) (by rw [hfl]; exact List.length_pos_iff.2 hne) (by rw [hfl]; exact fun m hm => (hfm.2 m hm).2))) ?_
     refine zk rfl rfl rfl (fun hg => zy (av := [_, _]) rfl ⟨((if_pos hg)), ((if_pos hg)), trivial⟩ (f29 (knR c l) (knS (zcq c l) c.fields.length) (by omega))) (zg rfl rfl (qI rfl rfl rfl rfl) (zg rfl rfl (zi rfl rfl) (zk rfl rfl rfl (fun hg => zy (av := []) rfl trivial hk) (zg rfl rfl (qI rfl rfl rfl rfl) (zg rfl rfl (zn rfl rfl) (zo (zf (zP ?_))))))))
     exact ⟨.inr rfl, AVle.of (congrArg (fun x : Bool => AV.v (Value.bool x)) (by rw [hE, zum hE, hfl]; simp))⟩
  ·
   exact absurd hA (by simpa using h_1)
theorem f3 (hk : KN G) (c : Cod) (l : List (List (List UInt8))) : ACall Tryz.prog G 3 [.agg (qK c), qO l] (.v (.bool true)) := by
 by_cases hA : yT c l = 0
 ·
  by_cases hN : kC c l = []
  ·
   exact zug hk c l hA hN
  ·
   exact zun hk c l hA hN
 ·
  exact zuf hk c l hA
end Go.Av
end
