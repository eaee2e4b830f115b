
import Derived.Test.YtaphehlgijlfeaaGreatDoorWiA2
import Derived.Test.YtaphehlgijlfeaaGreatDoorWiJ
import Derived.Test.YtaphehlgijlfeaaGreatDoorPlatG
set_option linter.unusedVariables false
set_option linter.unusedSimpArgs false
section
namespace Go.Av
open Go.Proofs
def zts (L : List (List Int)) (p : Nat) : Int := (L.getD 0 []).getD p 0
def agN (L : List (List Int)) (p q j : Nat) : Bool := ((L.drop 1).take j).all fun m => dig (m.getD p 0) q == dig (zts L p) q
def chB (L : List (List Int)) (p q j : Nat) : UInt8 := if agN L p q j then chD (dig (zts L p) q) else 63
def knB (L : List (List Int)) (p j : Nat) : List UInt8 := (List.range 5).map fun q => chB L p q j
def knM (L : List (List Int)) (p j k : Nat) : List UInt8 := (List.range 5).map fun q => chB L p q (if q < k then j + 1 else j)
def knS (L : List (List Int)) (K : Nat) : List (List UInt8) := (List.range K).map fun p => knB L p (L.drop 1).length
theorem zuq (L : List (List Int)) (p j : Nat) : knM L p j 0 = knB L p j := by simp [knM, knB]
theorem zup (L : List (List Int)) (p j : Nat) : knM L p j 5 = knB L p (j + 1) := by
 unfold knM knB
 refine List.map_congr_left fun q hq => ?_
 rw [if_pos (List.mem_range.1 hq)]
theorem zua (L : List (List Int)) (p q : Nat) : agN L p q 0 = true := by simp [agN]
theorem ztB {L : List (List Int)} {p q j : Nat} (h : j < (L.drop 1).length) : agN L p q (j + 1) = (agN L p q j && (dig (((L.drop 1).getD j []).getD p 0) q == dig (zts L p) q)) := by
 have e : (L.drop 1).getD j [] = (L.drop 1)[j] := by rw [List.getD_eq_getElem?_getD, List.getElem?_eq_getElem h, Option.getD_some]
 unfold agN; rw [List.take_succ_eq_append_getElem h, List.all_append, e]; simp
theorem ztF {L : List (List Int)} {p q j : Nat} : ((chB L p q j).toNat : Int) = if agN L p q j then 48 + dig (zts L p) q else 63 := by
 unfold chB
 split
 ·
  exact zhE (jq q)
 ·
  rfl
theorem ztX {L : List (List Int)} {p q j : Nat} (h : j < (L.drop 1).length) (he : ((chB L p q j).toNat : Int) = 48 + dig (((L.drop 1).getD j []).getD p 0) q) : chB L p q (j + 1) = chB L p q j := by
 rw [ztF] at he
 have hd := jq (n := ((L.drop 1).getD j []).getD p 0) q
 cases ha : agN L p q j with
 | false => rw [ha, if_neg (by decide)] at he; omega
 | true =>
  rw [ha, if_pos rfl] at he
  have : agN L p q (j + 1) = true := by rw [ztB h, ha, Bool.true_and, beq_iff_eq]; omega
  unfold chB; rw [ha, this]
theorem ztZ {L : List (List Int)} {p q j : Nat} (h : j < (L.drop 1).length) (he : ¬ ((chB L p q j).toNat : Int) = 48 + dig (((L.drop 1).getD j []).getD p 0) q) : chB L p q (j + 1) = 63 := by
 rw [ztF] at he
 have : agN L p q (j + 1) = false := by
  rw [ztB h]
  cases ha : agN L p q j with
  | false => rfl
  | true =>
   rw [ha, if_pos rfl] at he
   rw [Bool.true_and, beq_eq_false_iff_ne]
   intro e; exact he (by rw [e])
 unfold chB; rw [this]; rfl
theorem zuh {L : List (List Int)} {p j k : Nat} (h : k < 5) : (knM L p j k)[k]? = some (chB L p k j) := by simp [knM, h]
theorem ztV {L : List (List Int)} {p j k : Nat} (h : chB L p k (j + 1) = chB L p k j) : knM L p j (k + 1) = knM L p j k := by
 unfold knM
 refine List.map_congr_left fun q hq => ?_
 by_cases e : q = k
 ·
  subst e; rw [if_pos (by omega), if_neg (by omega), h]
 ·
  by_cases e2 : q < k
  ·
   rw [if_pos e2, if_pos (by omega)]
  ·
   rw [if_neg e2, if_neg (by omega)]
theorem zt7 {L : List (List Int)} {p j k : Nat} (h : chB L p k (j + 1) = 63) : (knM L p j k).set k 63 = knM L p j (k + 1) := by
 unfold knM
 refine List.ext_getElem (by simp) fun q h1 h2 => ?_
 rw [List.getElem_set]
 simp only [List.getElem_map, List.getElem_range]
 by_cases e : k = q
 ·
  subst e; rw [if_pos rfl, if_pos (by omega), h]
 ·
  rw [if_neg e]
  by_cases e2 : q < k
  ·
   rw [if_pos e2, if_pos (by omega)]
  ·
   rw [if_neg e2, if_neg (by omega)]
theorem ztM {n : Int} {q : Nat} (h : q < 5) : zqk (qB n) q = dig n q := by
 match q, h with
 | 0, _ => rfl
 | 1, _ => rfl
 | 2, _ => rfl
 | 3, _ => rfl
 | 4, _ => rfl
theorem zuo (L : List (List Int)) (p : Nat) : (qB (zts L p)).chs = knB L p 0 := by
 simp only [knB, chB, zua, if_true]
 rfl
theorem ztr (L : List (List Int)) (K : Nat) : (knS L K).length = K := by simp [knS]
theorem zt4 {L : List (List Int)} {K p : Nat} (h : p < K) : (knS L K).take (p + 1) = (knS L K).take p ++ [knB L p (L.drop 1).length] := by
 rw [List.take_succ_eq_append_getElem (by rw [ztr]; exact h)]; simp [knS]
end Go.Av
end
section
namespace Go.Av
open Go.Proofs
set_option maxRecDepth 100000
set_option maxHeartbeats 1000000
variable {G : Glob}
theorem ztu {m : List Int} {k : Nat} (h : k < m.length) : (m.map fun n => [AV.v (.int .i64 n)])[k]? = some [ei (m.getD k 0)] := by simp [h]; rfl
theorem ztw {L : List (List Int)} {P : List Int -> Prop} {k : Nat} (h : ∀ m ∈ L, P m) (hk : k < L.length) : P (L.getD k []) := by
 have e : L.getD k [] = L[k] := by simp [hk]
 rw [e]; exact h _ (List.getElem_mem hk)
theorem ztt {m : List Int} {P : Int -> Prop} {k : Nat} (h : ∀ x ∈ m, P x) (hk : k < m.length) : P (m.getD k 0) := by
 have e : m.getD k 0 = m[k] := by simp [hk]
 rw [e]; exact h _ (List.getElem_mem hk)
theorem ztQ {L : List (List Int)} {K p : Nat} (h : p < K) : zbh ((knS L K).take p) ++ [[SL (knB L p (L.drop 1).length)]] = zbh ((knS L K).take (p + 1)) := by rw [zt4 h]; simp [zbh]
theorem zty {L : List (List Int)} {K p : Nat} (h : p <= K) : ((knS L K).take p).length = p := by rw [List.length_take, ztr]; omega
theorem zt9 : zau Tryz.prog 48 1 = true := by kernel_rfl
theorem ty5 : tyIs Tryz.prog 5 false 1 = true := by kernel_rfl
theorem ztP (L : List (List Int)) : (((L.map fun m => [zO m]).take (L.map fun m => [zO m]).length).drop (1 : Int).toNat) = (L.drop 1).map fun m => [zO m] := by rw [List.take_length, List.map_drop]; rfl
theorem ztR (l : List UInt8) : ∀ q ∈ l.map ztq, q.length = 1 := fun q hq => by obtain ⟨x, _, rfl⟩ := List.mem_map.1 hq; rfl
theorem zt0 {L : List (List Int)} {p i k : Nat} (h : k < 5) : ((knM L p i k).map ztq)[k]? = some [.pub (.v (.int .u8 ((chB L p k i).toNat : Int)))] := by rw [List.getElem?_map, zuh h]; rfl
theorem zt6 {L : List (List Int)} {p i k : Nat} (h : chB L p k (i + 1) = 63) : ((knM L p i k).map ztq).set k [.pub (.v (.int .u8 63))] = (knM L p i (k + 1)).map ztq := by
 rw [← zt7 h, List.map_set]; rfl
theorem zuk {k : Nat} (l : List (List UInt8)) : PO.okL k (.row (zbh l)) := fun r hr x hx => by
 obtain ⟨q, _, rfl⟩ := List.mem_map.1 hr
 simp at hx; subst hx; trivial
theorem zt1 (n : Int) {k : Nat} (h : k < 5) : 0 <= zqk (qB n) k /\ zqk (qB n) k <= 9 := by rw [ztM h]; exact jq k
def knR (c : Cod) (l : List (List (List UInt8))) : List (List UInt8) := if kJ c l = 0 then knS (xU c l) c.fields.length else []
theorem zt8 (c : Cod) (l : List (List (List UInt8))) (hc : c.fields.length <= 1000 /\ c.turns.length <= 1000) (hl : l.length <= 1000) (hgl : ∀ g ∈ l, g.length <= 1000) (hf : kJ c l ≠ 0) : ACall Tryz.prog G 25 [.agg (qK c), qO l] (.tup [.sl [], ei (kJ c l)]) := by
 refine zS Tryz.func25 Y (by kernel_rfl) Y ?_
 refine zuy (zh (zE8 (jf Y (zY Y)) (zE8 (zn Y Y) (zE8 (zn Y Y) (zo (zf (zuy (zh (zE8 (zZ Y Y wH (by exact zLb Y)) (zE8 (zq Y Y) (zE8 (zy (av := [_, _]) Y ⟨Y, Y, trivial⟩ (f85 c l hc hl hgl)) ?_)))))))))))
 refine zE8 (zq Y Y) (zE8 (zN Y Y Y) (zE8 (zN Y Y Y) (zE8 (zW Y Y) (zE8 (zn Y Y) (zo (zf (zuy (zuy (zh (zE8 (zi Y Y) (zE8 (vg Y Y Y) ?_)))))))))))
 refine zo (zf (zx Y (fun h_0 => ?_) (fun h_0 => ?_)))
 ·
  refine zuy (zh (zE8 (zi Y Y) (zE8 (zn Y Y) (zE8 (zn Y Y) (zo (zf (zP (zQ ?_))))))))
  exact ⟨.inr Y, ⟨_, Y, ⟨_, _, Y, AVle.nil, ⟨_, _, Y, AVle.refl _, Y⟩⟩⟩⟩
 ·
  exfalso; simp at h_0; exact hf h_0
theorem zuj (c : Cod) (l : List (List (List UInt8))) (hc : c.fields.length <= 1000 /\ c.turns.length <= 1000) (hl : l.length <= 1000) (hgl : ∀ g ∈ l, g.length <= 1000) (hf : kJ c l = 0) (L : List (List Int)) (hLd : L = xU c l) : ACall Tryz.prog G 25 [.agg (qK c), qO l] (.tup [jD (knS L c.fields.length), ei 0]) := by
 have hfm := zk5 hf
 have hLb := (zce c l).1
 have hne : xU c l ≠ [] := by rw [(zoA hf).2.1]; exact (zoA hf).2.2
 rw [← hLd] at hfm hLb hne
 have hcb := wI hfm.1
 have hL0 : 0 < L.length := List.length_pos_iff.2 hne
 have hm0 := ztw (P := fun m => m.length = c.fields.length /\ ∀ x ∈ m, 0 <= x /\ x <= 1000000000000) (fun m hm => (hfm.2 m hm).2) hL0
 have hds := ztP L
 have hdl : (L.drop 1).length <= 4000000 := by simp; omega
 refine zS Tryz.func25 Y (by kernel_rfl) Y ?_
 refine zuy (zh (zE8 (jf Y (zY Y)) (zE8 (zn Y Y) (zE8 (zn Y Y) (zo (zf (zuy (zh (zE8 (zZ Y Y wH (by exact zLb Y)) (zE8 (zq Y Y) (zE8 (zy (av := [_, _]) Y ⟨Y, Y, trivial⟩ (hLd ▸ f85 c l hc hl hgl)) ?_)))))))))))
 refine zE8 (zq Y Y) (zE8 (zN Y Y Y) (zE8 (zN Y Y Y) (zE8 (zW Y Y) (zE8 (zn Y Y) (zo (zf (zuy (zuy (zh (zE8 (zi Y Y) (zE8 (vg Y Y Y) ?_)))))))))))
 refine zo (zf (zx Y (fun h_0 => ?_) (fun h_0 => ?_)))
 ·
  exfalso; rw [hf] at h_0; exact absurd h_0 (by decide)
 ·
  refine zC (zf (zuy (zh (zE8 (zn Y Y) (zo (zf (zuy (zuy (zh (zE8 (zu Y Y jS) (zE8 (zA Y Y Y zah) ?_)))))))))))
  refine zE8 (qh Y Y Y Tryz.underlying22) (zE8 (zi Y Y) (zo (zf (zB ?_))))
  refine qx (kG 8 Y) ?_
  refine qy (ι := { p : Nat // p <= c.fields.length }) (fun p => ⟨Tryz.f25.ntmps, frL [(2, .pub (.ptr (qK c))), (6, .pub (jc L)), (8, .psl 0 p.1), (26, I (c.fields.length : Int)), (27, I (p.1 : Int))], [.row (zbh ((knS L c.fields.length).take p.1))]⟩) (fun p => c.fields.length - p.1) (⟨0, Nat.zero_le _⟩) ?_ ?_
  ·
   exact zt _ ⟨Y, Y, Y, (congrArg (fun x : Nat => I (x : Int)) (List.length_map _)), Y, trivial⟩ (Y)
  ·
   rintro ⟨p, hp⟩
   dsimp only
   refine zuy (zh (zE8 (qi Y Y Y) (zo (zf (zuy (zx Y (fun h_1 => ?_) (fun h_1 => ?_)))))))
   ·
    have hpK : p < c.fields.length := by simp only [decide_eq_true_eq] at h_1; omega
    have hp0 : p < (L.getD 0 []).length := by rw [hm0.1]; exact hpK
    have hb0 : 0 <= zts L p /\ zts L p <= 1000000000000 := ztt hm0.2 hp0
    refine zC (zf (zuy (zB (zuy (zh (zE8 (zi Y Y) (zE8 (zn Y Y) (zo (zf (zuy (zh ?_)))))))))))
    refine zE8 (zq Y Y) (zE8 (zG Y Y Y zea (by omega) (zdm (k := 0) hL0) kz) (zE8 (zA Y Y Y jO) (zE8 (zi Y Y) (zE8 (zG Y Y Y jv (by omega) (ztu (k := p) hp0) jC) (zE8 (zA Y Y Y ty3) (zE8 (zy (av := [_]) Y ⟨Y, trivial⟩ (f86 (zts L p) hb0)) (zE8 (zy (av := [_]) Y ⟨Y, trivial⟩ (zut (qB (zts L p)) (zlN _))) ?_)))))))
    refine jb Y (ztW Y Y Y Tryz.underlying9 Tryz.underlying48 Tryz.underlying5 (by show 0 < 5; omega) (by show 5 <= 1000000; omega)) ?_
    refine zE8 (qo Y Y) (zo (zf (zuy (zuy (zh (zE8 (zq Y Y) ?_))))))
    refine zE8 (zhU Y Y Y Y zea kz (by omega) (by simp; omega) (by simp)) ?_
    refine zE8 (qh Y Y Y Tryz.underlying30) (zE8 (zi Y Y) (zo (zf (zB ?_))))
    refine qy (ι := { i : Nat // i <= (L.drop 1).length }) (fun i => ⟨Tryz.f25.ntmps, frL [(2, .pub (.ptr (qK c))), (6, .pub (jc L)), (8, .psl 0 p), (26, I (c.fields.length : Int)), (27, I (p : Int)), (9, I (p : Int)), (10, .psl 1 5), (40, .pub (.sl ((L.drop 1).map fun m => [zO m]))), (41, I ((L.drop 1).length : Int)), (42, I (i.1 : Int))], [.row (zbh ((knS L c.fields.length).take p)), .row ((knB L p i.1).map ztq)]⟩) (fun i => (L.drop 1).length - i.1) (⟨0, Nat.zero_le _⟩) ?_ ?_
    ·
     exact zt _ ⟨Y, Y, Y, Y, Y, Y, Y, (congrArg (fun z => EV.pub (.sl z)) hds), (congrArg (fun x : Nat => I (x : Int)) ((congrArg List.length hds).trans (List.length_map _))), Y, trivial⟩ (congrArg (fun z : List UInt8 => [PO.row (zbh ((knS L c.fields.length).take p)), PO.row (z.map ztq)]) (zuo L p))
    ·
     rintro ⟨i, hi⟩
     dsimp only
     refine zuy (zh (zE8 (qi Y Y Y) (zo (zf (zuy (zx Y (fun h_2 => ?_) (fun h_2 => ?_)))))))
     ·
      have hi : i < (L.drop 1).length := by simp only [decide_eq_true_eq] at h_2; omega
      have hmi := ztw (P := fun m => m.length = c.fields.length /\ ∀ x ∈ m, 0 <= x /\ x <= 1000000000000) (L := L.drop 1) (fun m hm => (hfm.2 m (List.mem_of_mem_drop hm)).2) hi
      have hpi : p < ((L.drop 1).getD i []).length := by rw [hmi.1]; exact hpK
      have hbi : 0 <= (((L.drop 1).getD i []).getD p 0) /\ (((L.drop 1).getD i []).getD p 0) <= 1000000000000 := ztt hmi.2 hpi
      refine zC (zf (zuy (zB (zuy (zh (zE8 (zG Y Y Y zea (by omega) (zdm (L := L.drop 1) (k := i) hi) kz) (zE8 (zA Y Y Y jO) (zE8 (zW Y Y) (zo (zf (zuy ?_)))))))))))
      refine zh (zE8 (zq Y Y) (zE8 (zi Y Y) (zE8 (zG Y Y Y jv (by omega) (ztu (k := p) hpi) jC) (zE8 (zA Y Y Y ty3) (zE8 (zy (av := [_]) Y ⟨Y, trivial⟩ (f86 (((L.drop 1).getD i []).getD p 0) hbi)) (zE8 (zi Y Y) (zo (zf (zB ?_)))))))))
      refine qy (ι := { k : Nat // k <= 5 }) (fun k => ⟨Tryz.f25.ntmps, frL [(2, .pub (.ptr (qK c))), (6, .pub (jc L)), (8, .psl 0 p), (26, I (c.fields.length : Int)), (27, I (p : Int)), (9, I (p : Int)), (10, .psl 1 5), (40, .pub (.sl ((L.drop 1).map fun m => [zO m]))), (41, I ((L.drop 1).length : Int)), (42, I (i : Int)), (50, .pub (.agg (eFg (qB (((L.drop 1).getD i []).getD p 0))))), (51, I (k.1 : Int))], [.row (zbh ((knS L c.fields.length).take p)), .row ((knM L p i k.1).map ztq)]⟩) (fun k => 5 - k.1) (⟨0, by omega⟩) ?_ ?_
      ·
       exact zt _ ⟨Y, Y, Y, Y, Y, Y, Y, Y, Y, Y, Y, Y, trivial⟩ (congrArg (fun z : List UInt8 => [PO.row (zbh ((knS L c.fields.length).take p)), PO.row (z.map ztq)]) (zuq L p i).symm)
      ·
       rintro ⟨k, hk⟩
       dsimp only
       refine zuy (zh (zE8 (qi Y Y Y) (zo (zf (zuy (zx Y (fun h_3 => ?_) (fun h_3 => ?_)))))))
       ·
        have hk5 : k < 5 := by simp only [decide_eq_true_eq] at h_3; omega
        have hfb := zt1 (((L.drop 1).getD i []).getD p 0) hk5
        have hfd := ztM (n := (((L.drop 1).getD i []).getD p 0)) hk5
        refine zC (zf (zuy (zB (zuy (zh (zE8 (zi Y Y) ?_))))))
        refine zE8 (ztp Y Y Y vw (fun e he => by rw [Tryz.underlying118] at he; cases he; exact ty3) (by omega) (by omega) (by rw [Int.toNat_natCast]; exact zul hk5)) ?_
        refine zE8 (zn Y Y) (zE8 (zn Y Y) (zo (zf (zuy (zh (zE8 (zI Y Y) (zE8 (zi Y Y) ?_)))))))
        refine zE8 (qc Y Y Y Y (by rw [List.length_map]; rfl) zt9 (by omega) (by omega) (ztR _)) ?_
        refine zE8 (zK (c := .pub (.v (.int .u8 ((chB L p k i).toNat : Int)))) Y Y Y (by rw [List.length_map]; rfl) (zt0 hk5) Y ty5) ?_
        refine zE8 (zi Y Y) (zE8 (zV Y Y Y ⟨(by omega), (by omega)⟩) (zE8 (y8 Y Y Tryz.underlying3 Tryz.underlying5 (wrap_u8 (by omega))) (zE8 (vg Y Y Y) (zo (zf (zx Y (fun h_4 => ?_) (fun h_4 => ?_)))))))
        ·
         have hcd := zt6 (ztZ (p := p) (q := k) hi (by rw [← hfd]; simpa using h_4))
         refine zh (zE8 (zI Y Y) (zE8 (zi Y Y) ?_))
         refine zE8 (qc Y Y Y Y (by rw [List.length_map]; rfl) zt9 (by omega) (by omega) (ztR _)) ?_
         refine jb Y (qG (r := [.pub (.v (.int .u8 ((chB L p k i).toNat : Int)))]) Y Y Y Y (by rw [List.length_map]; rfl) (zt0 hk5) (jF Y) ty5 (by rfl) (by exact zLb Y)) ?_
         refine zo (zD (zf (zh (zE8 (zV Y Y Y ⟨(by omega), (by omega)⟩) (zE8 (zi Y Y) (zo ?_))))))
         first | exact ⟨⟨k + 1, by omega⟩, by dsimp only; omega, zt (mem' := [.row (zbh ((knS L c.fields.length).take p)), .row ((knM L p i (k + 1)).map ztq)]) [(2, .pub (.ptr (qK c))), (6, .pub (jc L)), (8, .psl 0 p), (26, I (c.fields.length : Int)), (27, I (p : Int)), (9, I (p : Int)), (10, .psl 1 5), (40, .pub (.sl ((L.drop 1).map fun m => [zO m]))), (41, I ((L.drop 1).length : Int)), (42, I (i : Int)), (50, .pub (.agg (eFg (qB (((L.drop 1).getD i []).getD p 0))))), (51, I ((k + 1 : Nat) : Int))] ⟨rfl, rfl, rfl, rfl, rfl, rfl, rfl, rfl, rfl, rfl, rfl, rfl, trivial⟩ (congrArg (fun z => [PO.row (zbh ((knS L c.fields.length).take p)), PO.row z]) hcs)⟩ | exact ⟨⟨k + 1, by omega⟩, by dsimp only; omega, zt (mem' := [.row (zbh ((knS L c.fields.length).take p)), .row ((knM L p i (k + 1)).map ztq)]) [(2, .pub (.ptr (qK c))), (6, .pub (jc L)), (8, .psl 0 p), (26, I (c.fields.length : Int)), (27, I (p : Int)), (9, I (p : Int)), (10, .psl 1 5), (40, .pub (.sl ((L.drop 1).map fun m => [zO m]))), (41, I ((L.drop 1).length : Int)), (42, I (i : Int)), (50, .pub (.agg (eFg (qB (((L.drop 1).getD i []).getD p 0))))), (51, I ((k + 1 : Nat) : Int))] ⟨rfl, rfl, rfl, rfl, rfl, rfl, rfl, rfl, rfl, rfl, rfl, rfl, trivial⟩ (congrArg (fun z => [PO.row (zbh ((knS L c.fields.length).take p)), PO.row z]) hcd)⟩
        ·
         have hcs := congrArg (List.map ztq) (ztV (ztX (p := p) (q := k) hi (by rw [← hfd]; simpa using h_4))).symm
         refine zC (zD (zf (zh (zE8 (zV Y Y Y ⟨(by omega), (by omega)⟩) (zE8 (zi Y Y) (zo ?_))))))
         first | exact ⟨⟨k + 1, by omega⟩, by dsimp only; omega, zt (mem' := [.row (zbh ((knS L c.fields.length).take p)), .row ((knM L p i (k + 1)).map ztq)]) [(2, .pub (.ptr (qK c))), (6, .pub (jc L)), (8, .psl 0 p), (26, I (c.fields.length : Int)), (27, I (p : Int)), (9, I (p : Int)), (10, .psl 1 5), (40, .pub (.sl ((L.drop 1).map fun m => [zO m]))), (41, I ((L.drop 1).length : Int)), (42, I (i : Int)), (50, .pub (.agg (eFg (qB (((L.drop 1).getD i []).getD p 0))))), (51, I ((k + 1 : Nat) : Int))] ⟨rfl, rfl, rfl, rfl, rfl, rfl, rfl, rfl, rfl, rfl, rfl, rfl, trivial⟩ (congrArg (fun z => [PO.row (zbh ((knS L c.fields.length).take p)), PO.row z]) hcs)⟩ | exact ⟨⟨k + 1, by omega⟩, by dsimp only; omega, zt (mem' := [.row (zbh ((knS L c.fields.length).take p)), .row ((knM L p i (k + 1)).map ztq)]) [(2, .pub (.ptr (qK c))), (6, .pub (jc L)), (8, .psl 0 p), (26, I (c.fields.length : Int)), (27, I (p : Int)), (9, I (p : Int)), (10, .psl 1 5), (40, .pub (.sl ((L.drop 1).map fun m => [zO m]))), (41, I ((L.drop 1).length : Int)), (42, I (i : Int)), (50, .pub (.agg (eFg (qB (((L.drop 1).getD i []).getD p 0))))), (51, I ((k + 1 : Nat) : Int))] ⟨rfl, rfl, rfl, rfl, rfl, rfl, rfl, rfl, rfl, rfl, rfl, rfl, trivial⟩ (congrArg (fun z => [PO.row (zbh ((knS L c.fields.length).take p)), PO.row z]) hcd)⟩
       ·
        have hk5 : k = 5 := by simp only [decide_eq_false_iff_not] at h_3; omega
        refine qp (zL (zL (qw (zD (zf (zh (zE8 (zV Y Y Y ⟨(by omega), (by omega)⟩) (zE8 (zi Y Y) (zo ?_)))))))))
        exact ⟨⟨i + 1, by omega⟩, by dsimp only; omega, zt _ ⟨Y, Y, Y, Y, Y, Y, Y, Y, Y, Y, trivial⟩ (congrArg (fun z : List UInt8 => [PO.row (zbh ((knS L c.fields.length).take p)), PO.row (z.map ztq)]) (show knM L p i k = knB L p (i + 1) by rw [hk5, zup]))⟩
     ·
      have hie : i = (L.drop 1).length := by simp only [decide_eq_false_iff_not] at h_2; omega
      have hrow : zbh ((knS L c.fields.length).take p) ++ [[SL (knB L p i)]] = zbh ((knS L c.fields.length).take (p + 1)) := by rw [hie]; exact ztQ hpK
      refine qp (zL (zL (qw (zf (zh (zE8 (zI Y Y) (zE8 (zI Y Y) (zE8 (ztJ (l := knB L p i) Y Y Y Y Tryz.underlying48 Tryz.underlying5 Tryz.underlying9) ?_))))))))
      refine zE8 (qg (size := 1) (rows := [[_]]) Y Tryz.underlying34 ti9 Y (by decide) Y (by decide) ⟨_, _, Y, (jF Y), Y⟩ (by rfl) (by simp [ofV]) Y (by simp)) ?_
      refine jb Y (vS Y Y Y Y (by rw [jW, zty (by omega)]) Y zrL (xh _) (by simp) (by simp; omega) (by unfold maxLen; simp; omega)) ?_
      refine zE8 (qo Y Y) (zo (zD (zf (zh (zE8 (zV Y Y Y ⟨(by omega), (by omega)⟩) (zE8 (zi Y Y) (zo ?_)))))))
      exact ⟨⟨p + 1, by omega⟩, by dsimp only; omega, Weak.trans (zt (mem' := [.row (zbh ((knS L c.fields.length).take (p + 1))), .row ((knB L p i).map ztq)]) [(2, .pub (.ptr (qK c))), (6, .pub (jc L)), (8, .psl 0 (p + 1)), (26, I (c.fields.length : Int)), (27, I ((p + 1 : Nat) : Int))] ⟨Y, Y, Y, Y, Y, trivial⟩ (congrArg (fun z => [PO.row z, PO.row ((knB L p i).map ztq)]) hrow)) (vO 1 ⟨trivial, trivial, (show 0 < 1 by omega), trivial, trivial, trivial⟩ ⟨zuk _, trivial⟩)⟩
   ·
    have hpK : p = c.fields.length := by simp only [decide_eq_false_iff_not] at h_1; omega
    refine qp (zL (zL (qw (zf (zuy (zh (zE8 (zI Y Y) (zE8 (qo Y Y) (zE8 (zn Y Y) (zo (zf ?_)))))))))))
    refine zP ?_
    exact ⟨.inr Y, ⟨_, Y, ⟨_, _, Y, ⟨(knS L c.fields.length).map fun s => [eS s], by show some (PO.row _) = some (PO.row _); rw [hpK, List.take_of_length_le (by rw [ztr]; exact Nat.le_refl _)]; exact congrArg (fun z => some (PO.row z)) (ztx _), by rw [hpK]; simp [ztr], Y⟩, ⟨_, _, Y, AVle.refl _, Y⟩⟩⟩⟩
theorem f25 (c : Cod) (l : List (List (List UInt8))) (hc : c.fields.length <= 1000 /\ c.turns.length <= 1000) (hl : l.length <= 1000) (hgl : ∀ g ∈ l, g.length <= 1000) : ACall Tryz.prog G 25 [.agg (qK c), qO l] (.tup [jD (knR c l), ei (kJ c l)]) := by
 by_cases h : kJ c l = 0
 ·
  have := zuj (G := G) c l hc hl hgl h (xU c l) rfl
  unfold knR
  rw [if_pos h, h]
  exact this
 ·
  have := zt8 (G := G) c l hc hl hgl h
  unfold knR
  rw [if_neg h]
  exact this
theorem ztS {c : Cod} {l : List (List (List UInt8))} (h : kJ c l ≠ 0) : knR c l = [] := by unfold knR; rw [if_neg h]
theorem zum {c : Cod} {l : List (List (List UInt8))} (h : kJ c l = 0) : knR c l = knS (xU c l) c.fields.length := by unfold knR; rw [if_pos h]
theorem zt2 {c : Cod} {l : List (List (List UInt8))} (h : yT c l = 0) (h2 : kC c l = []) : xU c l = [] := by unfold xU; rw [if_pos h, h2]
end Go.Av
end
