
import Derived.Test.YtaphehlgijlfeaaGreatDoorWiP2
import Derived.Test.YtaphehlgijlfeaaGreatDoorPlatS
set_option linter.unusedVariables false
set_option linter.unusedSimpArgs false
section
namespace Go.Av
open Go.Proofs
set_option maxRecDepth 100000
set_option maxHeartbeats 1000000
variable {G : Glob}
theorem zBA (bk : List Ent) (ms : List Int) (k : Nat) (hl : ms.length <= 1000) (hms : ∀ n ∈ ms, 0 <= n /\ n <= 1000000000000) (hk : k < ms.length) (hc : ACall Tryz.prog G 122 [.agg (ePk bk ms), .v (.int .i64 ((k : Int) + 1))] (jD (zuE bk (ms.drop (k + 1))))) : SCall Tryz.prog G 153 [.agg (ePk bk ms), .v (.int .i64 (k : Int))] (fun u => .tuple #[u, .bool true]) ((grp ms[k] :: (zuE bk (ms.drop (k + 1)))).map fun s => [eS s]) := by
 refine zvE Tryz.func153 rfl (by kernel_rfl) rfl ?_
 refine zl (zh (zg rfl rfl (jf rfl (zY rfl)) (zg rfl rfl (zn rfl rfl) (zg rfl rfl (zn rfl rfl) (zo (zf (zl ?_)))))))
 refine qx vz ?_
 refine wR (fun _ => True) (fun k => match k with | 0 => .stable | 1 => .stable | 2 => .stable | 3 => .stable | 4 => .stable | 5 => .stable | 6 => .stable | 7 => .own 0 | 8 => .stable | 9 => .stable | 10 => .stable | 11 => .stable | 12 => .writes | 13 => .stable | 14 => .stable | _ => .here) mixed (by kernel_rfl) rfl (by kernel_rfl) trivial ?_
 refine wo rfl rfl (fun m hm => zu rfl rfl zuX) (wo rfl rfl (fun m hm => zA rfl rfl rfl jO) (wo rfl rfl (fun m hm => zi rfl rfl) (wo rfl rfl (fun m hm => zG rfl rfl rfl jv (by omega) (wu hk) jC) (wo rfl rfl (fun m hm => zA rfl rfl rfl ty3) (wo rfl rfl (fun m hm => zy (av := [_]) rfl ⟨rfl, trivial⟩ (f86 ms[k] (hms _ (List.getElem_mem hk)))) (wo rfl rfl (fun m hm => zy (av := [_]) rfl ⟨rfl, trivial⟩ (zut _ (zlN _))) ?_))))))
 refine zgb rfl rfl (ob1 rfl rfl rfl) ?_
 refine wo rfl rfl (fun m hm => zZ rfl rfl zwR (by exact zLb rfl)) (wo rfl rfl (fun m hm => zi rfl rfl) (wo rfl rfl (fun m hm => zV rfl rfl rfl ⟨(by omega), (by omega)⟩) (wo rfl rfl (fun m hm => zy (av := [_, _]) rfl ⟨rfl, rfl, trivial⟩ hc) ?_)))
 refine zaw rfl rfl (zj3 rfl rfl rfl (by simp) rfl zrL (by simp) (zvB _) (by have := pk_len (bk := bk) (k + 1) hl; simp; omega) (by have := pk_len (bk := bk) (k + 1) hl; unfold maxLen; simp; omega)) trivial ?_
 refine wo rfl rfl (fun m hm => qo rfl rfl) (wo rfl rfl (fun m hm => zn rfl rfl) (wQ (zf (zP ?_))))
 exact ⟨.inr rfl, zA0 (t := 4) (t2 := 5) rfl rfl rfl rfl (by simp [grp]) (by simp; omega) rfl rfl zvh⟩
theorem zyY (bk : List Ent) (ms : List Int) (k : Nat) (hl : ms.length <= 1000) (hms : ∀ n ∈ ms, 0 <= n /\ n <= 1000000000000) (hk : ms.length <= k + 1) (hk2 : k <= ms.length) : ACall Tryz.prog G 152 [.agg (ePk bk ms), .v (.int .i64 (k : Int))] (.tup [.v (.slice none 0 0), .v (.bool false)]) := by
 refine zS Tryz.func152 rfl (by kernel_rfl) rfl ?_
 refine zl (zh (zg rfl rfl (jf rfl (zY rfl)) (zg rfl rfl (zn rfl rfl) (zg rfl rfl (zn rfl rfl) (zo (zf (zl (zl (zh (zg rfl rfl (zi rfl rfl) (zg rfl rfl (zV rfl rfl rfl ⟨(by omega), (by omega)⟩) ?_)))))))))))
 refine zg rfl rfl (zu rfl rfl zuX) (zg rfl rfl (zA rfl rfl rfl jO) (zg rfl rfl (qh rfl rfl rfl Tryz.underlying23) (zg rfl rfl (zbe rfl rfl rfl) (zo (zf (zx rfl (fun h0 => ?_) (fun h0 => ?_)))))))
 ·
  refine zl (zh (zg rfl rfl (zn rfl rfl) (zg rfl rfl (zn rfl rfl) (zo (zf (zP (zQ ?_)))))))
  exact ⟨.inr rfl, ⟨_, rfl, ⟨_, _, rfl, AVle.refl _, ⟨_, _, rfl, AVle.refl _, rfl⟩⟩⟩⟩
 ·
  exfalso; simp [zO] at h0; omega
theorem zzV (bk : List Ent) (ms : List Int) (k : Nat) (hl : ms.length <= 1000) (hms : ∀ n ∈ ms, 0 <= n /\ n <= 1000000000000) (hk : k + 1 < ms.length) (hb : bk.length <= 1000) (hn : zvo bk ms[k] ms[k + 1] = none) : ACall Tryz.prog G 152 [.agg (ePk bk ms), .v (.int .i64 (k : Int))] (.tup [.v (.slice none 0 0), .v (.bool false)]) := by
 have hany := zzk hn
 refine zS Tryz.func152 rfl (by kernel_rfl) rfl ?_
 refine zl (zh (zg rfl rfl (jf rfl (zY rfl)) (zg rfl rfl (zn rfl rfl) (zg rfl rfl (zn rfl rfl) (zo (zf (zl (zl (zh (zg rfl rfl (zi rfl rfl) (zg rfl rfl (zV rfl rfl rfl ⟨(by omega), (by omega)⟩) ?_)))))))))))
 refine zg rfl rfl (zu rfl rfl zuX) (zg rfl rfl (zA rfl rfl rfl jO) (zg rfl rfl (qh rfl rfl rfl Tryz.underlying23) (zg rfl rfl (zbe rfl rfl rfl) (zo (zf (zx rfl (fun h0 => ?_) (fun h0 => ?_)))))))
 ·
  exfalso; simp [zO] at h0; omega
 ·
  refine zC (zf (zl (zl (zh (zg rfl rfl (zu rfl rfl zxj) (zg rfl rfl (zA rfl rfl rfl zBE) (zg rfl rfl (qh rfl rfl rfl Tryz.underlying63) (zg rfl rfl (zi rfl rfl) (zo (zf (zB ?_)))))))))))
  refine qy (ι := { q : Nat // q <= bk.length /\ (bk.take q).any (fun e : Ent => e.first == ms[k] && e.second == ms[k + 1]) = false }) (fun q => ⟨Tryz.f152.ntmps, frL [(1, I (k : Int)), (2, .pub (.ptr (ePk bk ms))), (15, .pub (eBk bk)), (16, I (bk.length : Int)), (17, I (q.1 : Int))], []⟩) (fun q => bk.length - q.1) (⟨0, by simp⟩) ?_ ?_
  ·
   exact zt _ ⟨rfl, rfl, rfl, (congrArg (fun x : Nat => I (x : Int)) (List.length_map _)), rfl, trivial⟩ (rfl)
  ·
   rintro ⟨q, hq⟩
   dsimp only
   refine zl (zh (zg rfl rfl (qi rfl rfl rfl) (zo (zf (zl (zx rfl (fun h1 => ?_) (fun h1 => ?_)))))))
   ·
    have hlt : q < bk.length := by simpa [eBk] using h1
    refine zC (zf (zl (zB (zl (zh (zg rfl rfl (zG rfl rfl rfl zu4 (by omega) (zuT hlt) zuN) (zg rfl rfl (zZ rfl rfl zvN (by exact zLb rfl)) ?_)))))))
    refine vI  rfl rfl rfl rfl rfl rfl rfl zxm zvN rfl (by rfl) (zY rfl) rfl ?_
    refine zo (zf (zl ?_))
    refine qY mixed (by kernel_rfl) rfl ?_
    refine zH rfl (zu rfl rfl zvf) (zH rfl (zA rfl rfl rfl ty3) (zH rfl (zu rfl rfl zuX) (zH rfl (zA rfl rfl rfl jO) (zH rfl (zi rfl rfl) ?_))))
    refine zH rfl (zG rfl rfl rfl jv (by omega) (wu (show k < ms.length by omega)) jC) ?_
    refine zH rfl (zA rfl rfl rfl ty3) (zH rfl (qJ rfl rfl rfl) (zH rfl (zi rfl rfl) (jm rfl (fun hg => zu rfl rfl zvc) (jm rfl (fun hg => zA rfl (if_pos hg) rfl ty3) (jm rfl (fun hg => zu rfl rfl zuX) (jm rfl (fun hg => zA rfl (if_pos hg) rfl jO) (jm rfl (fun hg => zi rfl rfl) ?_)))))))
    refine jm rfl (fun hg => zV rfl (if_pos hg) rfl ⟨(by first | omega | (simp at hg; omega)), (by first | omega | (simp at hg; omega))⟩) ?_
    refine jm rfl (fun hg => zG rfl (if_pos hg) (if_pos hg) jv (by omega) (by rw [show ((k : Int) + 1).toNat = k + 1 by omega]; exact wu (show k + 1 < ms.length by omega)) jC) ?_
    refine jm rfl (fun hg => zA rfl (if_pos hg) rfl ty3) (jm rfl (fun hg => qJ rfl (if_pos hg) (if_pos hg)) (zH rfl (qI rfl rfl rfl rfl) (jw (zf (zx rfl (fun h2 => ?_) (fun h2 => ?_))))))
    ·
     exfalso; rw [List.any_eq_false] at hany; exact hany _ (List.getElem_mem hlt) (by simpa using h2)
    ·
     have hb : (fun e : Ent => e.first == ms[k] && e.second == ms[k + 1]) bk[q] = false := by simpa using h2
     refine zC (zD (zf (zh (zg rfl rfl (zV rfl rfl rfl ⟨(by omega), (by omega)⟩) (zg rfl rfl (zi rfl rfl) (zo ?_))))))
     exact ⟨⟨q + 1, by omega, zaE hq.2 hlt hb⟩, by dsimp only; omega, zt _ ⟨rfl, rfl, rfl, rfl, rfl, trivial⟩ (rfl)⟩
   ·
    have hge : bk.length <= q := by simpa [eBk] using h1
    refine qp (zL (zL (qw (zf (zl (zh (zg rfl rfl (zn rfl rfl) (zg rfl rfl (zn rfl rfl) (zo (zf (zP ?_)))))))))))
    exact ⟨.inr rfl, ⟨_, rfl, ⟨_, _, rfl, AVle.refl _, ⟨_, _, rfl, AVle.refl _, rfl⟩⟩⟩⟩
theorem zyZ (bk : List Ent) (ms : List Int) (k : Nat) (hl : ms.length <= 1000) (hms : ∀ n ∈ ms, 0 <= n /\ n <= 1000000000000) (hk : k + 1 < ms.length) (hb : bk.length <= 1000) {e : Ent} (hn : zvo bk ms[k] ms[k + 1] = some e) (hc : ACall Tryz.prog G 122 [.agg (ePk bk ms), .v (.int .i64 ((k : Int) + 2))] (jD (zuE bk (ms.drop (k + 2))))) : SCall Tryz.prog G 152 [.agg (ePk bk ms), .v (.int .i64 (k : Int))] (fun u => .tuple #[u, .bool true]) ((e.word :: (zuE bk (ms.drop (k + 2)))).map fun s => [eS s]) := by
 refine zvE Tryz.func152 rfl (by kernel_rfl) rfl ?_
 refine zl (zh (zg rfl rfl (jf rfl (zY rfl)) (zg rfl rfl (zn rfl rfl) (zg rfl rfl (zn rfl rfl) (zo (zf (zl (zl (zh (zg rfl rfl (zi rfl rfl) (zg rfl rfl (zV rfl rfl rfl ⟨(by omega), (by omega)⟩) ?_)))))))))))
 refine zg rfl rfl (zu rfl rfl zuX) (zg rfl rfl (zA rfl rfl rfl jO) (zg rfl rfl (qh rfl rfl rfl Tryz.underlying23) (zg rfl rfl (zbe rfl rfl rfl) (zo (zf (zx rfl (fun h0 => ?_) (fun h0 => ?_)))))))
 ·
  skip
  exfalso; simp [zO] at h0; omega
 ·
  skip
  refine zC (zf (zl (zl (zh (zg rfl rfl (zu rfl rfl zxj) (zg rfl rfl (zA rfl rfl rfl zBE) (zg rfl rfl (qh rfl rfl rfl Tryz.underlying63) (zg rfl rfl (zi rfl rfl) (zo (zf (zB ?_)))))))))))
  refine qy (ι := { q : Nat // q <= bk.length /\ (bk.take q).any (fun e : Ent => e.first == ms[k] && e.second == ms[k + 1]) = false }) (fun q => ⟨Tryz.f152.ntmps, frL [(1, I (k : Int)), (2, .pub (.ptr (ePk bk ms))), (15, .pub (eBk bk)), (16, I (bk.length : Int)), (17, I (q.1 : Int))], []⟩) (fun q => bk.length - q.1) (⟨0, by simp⟩) ?_ ?_
  ·
   exact zt _ ⟨rfl, rfl, rfl, (congrArg (fun x : Nat => I (x : Int)) (List.length_map _)), rfl, trivial⟩ (rfl)
  ·
   rintro ⟨q, hq⟩
   dsimp only
   refine zl (zh (zg rfl rfl (qi rfl rfl rfl) (zo (zf (zl (zx rfl (fun h1 => ?_) (fun h1 => ?_)))))))
   ·
    skip
    have hlt : q < bk.length := by simpa [eBk] using h1
    refine zC (zf (zl (zB (zl (zh (zg rfl rfl (zG rfl rfl rfl zu4 (by omega) (zuT hlt) zuN) (zg rfl rfl (zZ rfl rfl zvN (by exact zLb rfl)) ?_)))))))
    refine vI  rfl rfl rfl rfl rfl rfl rfl zxm zvN rfl (by rfl) (zY rfl) rfl ?_
    refine zo (zf (zl ?_))
    refine qY mixed (by kernel_rfl) rfl ?_
    refine zH rfl (zu rfl rfl zvf) (zH rfl (zA rfl rfl rfl ty3) (zH rfl (zu rfl rfl zuX) (zH rfl (zA rfl rfl rfl jO) (zH rfl (zi rfl rfl) ?_))))
    refine zH rfl (zG rfl rfl rfl jv (by omega) (wu (show k < ms.length by omega)) jC) ?_
    refine zH rfl (zA rfl rfl rfl ty3) (zH rfl (qJ rfl rfl rfl) (zH rfl (zi rfl rfl) (jm rfl (fun hg => zu rfl rfl zvc) (jm rfl (fun hg => zA rfl (if_pos hg) rfl ty3) (jm rfl (fun hg => zu rfl rfl zuX) (jm rfl (fun hg => zA rfl (if_pos hg) rfl jO) (jm rfl (fun hg => zi rfl rfl) ?_)))))))
    refine jm rfl (fun hg => zV rfl (if_pos hg) rfl ⟨(by first | omega | (simp at hg; omega)), (by first | omega | (simp at hg; omega))⟩) ?_
    refine jm rfl (fun hg => zG rfl (if_pos hg) (if_pos hg) jv (by omega) (by rw [show ((k : Int) + 1).toNat = k + 1 by omega]; exact wu (show k + 1 < ms.length by omega)) jC) ?_
    refine jm rfl (fun hg => zA rfl (if_pos hg) rfl ty3) (jm rfl (fun hg => qJ rfl (if_pos hg) (if_pos hg)) (zH rfl (qI rfl rfl rfl rfl) (jw (zf (zx rfl (fun h2 => ?_) (fun h2 => ?_))))))
    ·
     skip
     have he : bk[q] = e := by have h5 := zAm hq.2 hlt (by simpa using h2); rw [hn] at h5; injection h5 with h5; exact h5.symm
     refine zl ?_
     refine qx vz ?_
     refine wR (fun _ => True) (fun k => match k with | 0 => .stable | 1 => .stable | 2 => .own 0 | 3 => .stable | 4 => .stable | 5 => .stable | 6 => .stable | 7 => .writes | 8 => .stable | 9 => .stable | _ => .here) mixed (by kernel_rfl) rfl (by kernel_rfl) trivial ?_
     refine wo rfl rfl (fun m hm => zu rfl rfl zuW) (wo rfl rfl (fun m hm => zA rfl rfl rfl ty9) ?_)
     refine zgb rfl rfl (ob1 rfl rfl rfl) ?_
     refine wo rfl rfl (fun m hm => zZ rfl rfl zwR (by exact zLb rfl)) (wo rfl rfl (fun m hm => zi rfl rfl) (wo rfl rfl (fun m hm => zV rfl rfl rfl ⟨(by omega), (by omega)⟩) (wo rfl rfl (fun m hm => zy (av := [_, _]) rfl ⟨rfl, rfl, trivial⟩ hc) ?_)))
     refine zaw rfl rfl (zj3 rfl rfl rfl (by simp) rfl zrL (by simp) (zvB _) (by have := pk_len (bk := bk) (k + 2) hl; simp; omega) (by have := pk_len (bk := bk) (k + 2) hl; unfold maxLen; simp; omega)) trivial ?_
     refine wo rfl rfl (fun m hm => qo rfl rfl) (wo rfl rfl (fun m hm => zn rfl rfl) (wQ (zf (zP (qF (zQ (zQ (qF (zQ ?_)))))))))
     exact ⟨.inr rfl, zA0 (t := 4) (t2 := 5) rfl rfl rfl rfl (by simp [he]) (by simp; omega) rfl rfl zvh⟩
    ·
     skip
     have hb : (fun e : Ent => e.first == ms[k] && e.second == ms[k + 1]) bk[q] = false := by simpa using h2
     refine zC (zD (zf (zh (zg rfl rfl (zV rfl rfl rfl ⟨(by omega), (by omega)⟩) (zg rfl rfl (zi rfl rfl) (zo ?_))))))
     exact ⟨⟨q + 1, by omega, zaE hq.2 hlt hb⟩, by dsimp only; omega, zt _ ⟨rfl, rfl, rfl, rfl, rfl, trivial⟩ (rfl)⟩
   ·
    skip
    have hge : bk.length <= q := by simpa [eBk] using h1
    exfalso; have h5 := zyd hn; rw [List.take_of_length_le hge] at hq; have h6 := hq.2; rw [List.any_eq_false] at h6; exact h6 _ h5.1 (by simp [h5.2.1, h5.2.2])
abbrev VL := Value × LS
def d0U : VL := (.bool false, [])
def shU (a b : VL) : Bool := shF a.2 b.2
theorem zyU {α : Type} (f : α -> α -> Bool) (d : α) (D : List α) : ∀ k, k < D.length -> bsK f d D k ∈ D
 | 0, h => by rw [bsK, List.getD_eq_getElem?_getD, List.getElem?_eq_getElem h]; exact List.getElem_mem h
 | k + 1, h => by
  rw [bsK]
  split
  ·
   rw [List.getD_eq_getElem?_getD, List.getElem?_eq_getElem h]; exact List.getElem_mem h
  ·
   exact zyU f d D k (by omega)
theorem getD_mem {α : Type} {D : List α} {k : Nat} {d : α} (h : k < D.length) : D.getD k d ∈ D := by
 rw [List.getD_eq_getElem?_getD, List.getElem?_eq_getElem h]; exact List.getElem_mem h
theorem zzU (D : List VL) : (((D.map fun s => [AV.v s.1]).take (D.map fun s => [AV.v s.1]).length).drop (1 : Int).toNat) = (D.drop 1).map fun s => [AV.v s.1] := by rw [List.take_length, List.map_drop]; rfl
theorem zBD {D : List VL} {k : Nat} (h : k < D.length) : (D.map fun s => [AV.v s.1])[k]? = some [AV.v (D.getD k d0U).1] := by simp [h]
theorem zyc {D : List VL} : ∀ q ∈ D.map (fun s => [AV.v s.1]), q.length = 1 := fun q hq => by obtain ⟨p, _, rfl⟩ := List.mem_map.1 hq; rfl
theorem zBo {D : List VL} {k : Nat} (h : k + 1 < D.length) : ((D.drop 1).map fun s => [AV.v s.1])[k]? = some [AV.v (D.getD (k + 1) d0U).1] := by
 rw [List.getElem?_map, List.getElem?_drop, Nat.add_comm 1 k, List.getD_eq_getElem?_getD, List.getElem?_eq_getElem h]; rfl
theorem zAW (D : List VL) (hsh : ∀ p ∈ D, ∀ q ∈ D, ACall Tryz.prog G 155 [.v p.1, .v q.1] (.v (.bool (shU p q)))) (h0 : 0 < D.length) (hD : D.length <= 1000) : ACall Tryz.prog G 154 [.sl (D.map fun s => [.v s.1]), .fn 155 [] []] (.v (bsK shU d0U D (D.length - 1)).1) := by
 have hz := zzU D
 refine zS Tryz.func154 rfl (by kernel_rfl) rfl ?_
 refine zl (zh (zg rfl rfl (zn rfl rfl) (zo (zf (zl (zh (zg rfl rfl (zq rfl rfl) (zg rfl rfl (zG rfl rfl rfl zbo (by omega) (zBD h0) zyc) (zg rfl rfl (zA rfl rfl rfl zfC) (zg rfl rfl (zn rfl rfl) (zo ?_)))))))))))
 refine zf (zl (zl (zh (zg rfl rfl (zq rfl rfl) ?_))))
 refine zg rfl rfl (zhU rfl rfl rfl rfl zbo zyc (by omega) (by simp; omega) (by simp)) ?_
 refine zg rfl rfl (qh rfl rfl rfl Tryz.underlying26) (zg rfl rfl (zi rfl rfl) (zo (zf (zB ?_))))
 refine qy (ι := { k : Nat // k + 1 <= D.length }) (fun k => ⟨Tryz.f154.ntmps, frL [(1, .pub (.fn 155 [] [])), (5, .pub (.v (bsK shU d0U D k.1).1)), (12, .pub (.sl ((D.drop 1).map fun s => [.v s.1]))), (13, I ((D.length - 1 : Nat) : Int)), (14, I (k.1 : Int))], []⟩) (fun k => D.length - k.1) (⟨0, by omega⟩) ?_ ?_
 ·
  exact zt _ ⟨rfl, rfl, (congrArg (fun z => EV.pub (AV.sl z)) hz), (congrArg (fun z : Nat => I (z : Int)) (by rw [Int.toNat_natCast, hz]; simp)), rfl, trivial⟩ (rfl)
 ·
  rintro ⟨k, hk⟩
  dsimp only
  refine zl (zh (zg rfl rfl (qi rfl rfl rfl) (zo (zf (zl (zx rfl (fun h0 => ?_) (fun h0 => ?_)))))))
  ·
   have hlt : k + 1 < D.length := by simp at h0; omega
   refine zC (zf (zl (zB (zl (zh (zg rfl rfl (zG rfl rfl rfl zbo (by omega) (zBo (by omega)) zyc) (zg rfl rfl (zA rfl rfl rfl zfC) (zg rfl rfl (zn rfl rfl) (zo (zf (zl ?_)))))))))))
   refine zh (zg rfl rfl (zq rfl rfl) (zg rfl rfl (zi rfl rfl) (zg rfl rfl (zi rfl rfl) (zg rfl rfl (zbX (av := [_, _]) rfl rfl ⟨rfl, rfl, trivial⟩ (hsh _ (getD_mem (d := d0U) hlt) _ (zyU shU d0U D k (by omega)))) (zo (zf (zx rfl (fun h1 => ?_) (fun h1 => ?_))))))))
   ·
    have hb : (bsK shU d0U D (k + 1)) = D.getD (k + 1) d0U := by rw [bsK, if_pos (by simpa using h1)]
    refine zh (zg rfl rfl (zi rfl rfl) (zg rfl rfl (zn rfl rfl) (zo (zD (zf (zh (zg rfl rfl (zV rfl rfl rfl ⟨(by omega), (by omega)⟩) (zg rfl rfl (zi rfl rfl) (zo ?_)))))))))
    exact ⟨⟨k + 1, by omega⟩, by dsimp only; omega, zt _ ⟨rfl, (congrArg (fun z : VL => EV.pub (.v z.1)) hb.symm), rfl, rfl, rfl, trivial⟩ (rfl)⟩
   ·
    have hb : (bsK shU d0U D (k + 1)) = (bsK shU d0U D k) := by rw [bsK, if_neg (by simpa using h1)]
    refine zC (zD (zf (zh (zg rfl rfl (zV rfl rfl rfl ⟨(by omega), (by omega)⟩) (zg rfl rfl (zi rfl rfl) (zo ?_))))))
    exact ⟨⟨k + 1, by omega⟩, by dsimp only; omega, zt _ ⟨rfl, (congrArg (fun z : VL => EV.pub (.v z.1)) hb.symm), rfl, rfl, rfl, trivial⟩ (rfl)⟩
  ·
   have hge : D.length <= k + 1 := by simp at h0; omega
   have hk2 : k = D.length - 1 := by omega
   refine qp (zL (zL (qw (zf (zl (zh (zg rfl rfl (zi rfl rfl) (zg rfl rfl (zn rfl rfl) (zo (zf (zP ?_)))))))))))
   exact ⟨.inr rfl, AVle.of (by rw [hk2])⟩
def rws (l : LS) : List (List AV) := l.map fun s => [eS s]
def rwE (l : LS) : List (List EV) := (rws l).map (·.map .pub)
theorem zyP (l : LS) : (rws l).length = l.length := List.length_map ..
theorem zBh (u : Value) (A : LS) : ACall Tryz.prog (GU G [(u, rws A)]) 154 [.sl [[.v u]], .fn 155 [] []] (.v u) := by
 have := zAW (G := GU G [(u, rws A)]) [(u, A)] (fun p hp q hq => by
  rw [List.mem_singleton] at hp hq; subst hp; subst hq
  exact zvF (List.mem_cons_self ..) (List.mem_cons_self ..) (f155 A A)) (by simp) (by simp)
 simpa [bsK] using this
theorem zBl (u v : Value) (A B : LS) : ACall Tryz.prog (GU G [(u, rws A), (v, rws B)]) 154 [.sl [[.v u], [.v v]], .fn 155 [] []] (.v (if shF B A = true then v else u)) := by
 have h1 : (u, rws A) ∈ [(u, rws A), (v, rws B)] := List.mem_cons_self ..
 have h2 : (v, rws B) ∈ [(u, rws A), (v, rws B)] := List.mem_cons_of_mem _ (List.mem_cons_self ..)
 have := zAW (G := GU G [(u, rws A), (v, rws B)]) [(u, A), (v, B)] (fun p hp q hq => by
  simp only [List.mem_cons, List.not_mem_nil, or_false] at hp hq
  rcases hp with rfl | rfl <;> rcases hq with rfl | rfl
  ·
   exact zvF h1 h1 (f155 A A)
  ·
   exact zvF h1 h2 (f155 A B)
  ·
   exact zvF h2 h1 (f155 B A)
  ·
   exact zvF h2 h2 (f155 B B)) (by simp) (by simp)
 have e : (bsK shU d0U [(u, A), (v, B)] 1).1 = if shF B A = true then v else u := by
  simp only [bsK, shU, List.getD_cons_zero, List.getD_cons_succ]
  split <;> rfl
 rw [show ([(u, A), (v, B)] : List VL).length - 1 = 1 from rfl, e] at this
 exact this
theorem zyX {Gl : Glob} (bk : List Ent) (ms : List Int) (kk : Nat) (hl : ms.length <= 1000) (hkk : ms.length = kk) : SCall Tryz.prog Gl 122 [.agg (ePk bk ms), .v (.int .i64 (kk : Int))] (fun u => u) (rws []) := by
 refine zvE Tryz.func122 rfl (by kernel_rfl) rfl ?_
 refine zl (zh (zg rfl rfl (jf rfl (zY rfl)) (zg rfl rfl (zn rfl rfl) (zo (zf (zl (zl (zh (zg rfl rfl (zi rfl rfl) (zg rfl rfl (zu rfl rfl zuX) (zg rfl rfl (zA rfl rfl rfl jO) ?_)))))))))))
 refine zg rfl rfl (qh rfl rfl rfl Tryz.underlying23) (zg rfl rfl (qJ rfl rfl rfl) (zo (zf (zx rfl (fun h0 => ?_) (fun h0 => ?_)))))
 ·
  skip
  refine zl (zh (zg rfl rfl (zn rfl rfl) (zo (zf ?_))))
  refine qx (kG 4 rfl) ?_
  refine zP (zQ ?_)
  exact ⟨.inr rfl, zyy (t := 4) (k := 0) (M := rwE []) rfl rfl rfl rfl rfl rfl zvh⟩
 ·
  skip
  exfalso; simp [zO] at h0; omega
theorem zwT {Gl : Glob} (bk : List Ent) (ms : List Int) (kk : Nat) (hl : ms.length <= 1000) (hkk : kk < ms.length) (G : LS) (hw : ACall Tryz.prog Gl 152 [.agg (ePk bk ms), .v (.int .i64 (kk : Int))] (.tup [.v (.slice none 0 0), .v (.bool false)])) (hg : SCall Tryz.prog Gl 153 [.agg (ePk bk ms), .v (.int .i64 (kk : Int))] (fun u => .tuple #[u, .bool true]) (rws G)) : SCall Tryz.prog Gl 122 [.agg (ePk bk ms), .v (.int .i64 (kk : Int))] (fun u => u) (rws G) := by
 refine zvE Tryz.func122 rfl (by kernel_rfl) rfl ?_
 refine zl (zh (zg rfl rfl (jf rfl (zY rfl)) (zg rfl rfl (zn rfl rfl) (zo (zf (zl (zl (zh (zg rfl rfl (zi rfl rfl) (zg rfl rfl (zu rfl rfl zuX) (zg rfl rfl (zA rfl rfl rfl jO) ?_)))))))))))
 refine zg rfl rfl (qh rfl rfl rfl Tryz.underlying23) (zg rfl rfl (qJ rfl rfl rfl) (zo (zf (zx rfl (fun h0 => ?_) (fun h0 => ?_)))))
 ·
  skip
  exfalso; simp [zO] at h0; omega
 ·
  skip
  refine zC (zf (zl (zh (zg rfl rfl (zn rfl rfl) (zo (zf (zl (zl (zh (zg rfl rfl (zZ rfl rfl zwR (by exact zLb rfl)) (zg rfl rfl (zcA (fs := [_]) (cs := []) rfl rfl rfl) ?_)))))))))))
  refine zg rfl rfl (zZ rfl rfl zwR (by exact zLb rfl)) (zg rfl rfl (zcA (fs := [_]) (cs := []) rfl rfl rfl) ?_)
  refine zg rfl rfl (znx (cs := [_, _]) rfl zA1 rfl ⟨_, _, rfl, (zux rfl), ⟨_, _, rfl, (zux rfl), rfl⟩⟩ (by rfl) (by simp [ofV])) ?_
  refine zg rfl rfl (zi rfl rfl) (zo (zf (zB ?_)))
  refine qx (kG 5 rfl) ?_
  refine qy (ι := { k : Nat × Value × Value // k.1 < 3 }) (fun k => match k.1 with | (0, uW, uG) => ⟨Tryz.f122.ntmps, frL [(1, I (kk : Int)), (2, .pub (.ptr (ePk bk ms))), (5, .psl 0 0), (19, .pub (.agg [.fn 152 [.agg (ePk bk ms)] [], .fn 153 [.agg (ePk bk ms)] []])), (20, I 0)], [.row []]⟩ | (1, uW, uG) => ⟨⟨Tryz.f122.ntmps, [], [], false, []⟩, frL [(1, I (kk : Int)), (2, .pub (.ptr (ePk bk ms))), (5, .psl 0 0), (19, .pub (.agg [.fn 152 [.agg (ePk bk ms)] [], .fn 153 [.agg (ePk bk ms)] []])), (20, I 1)], [.row []]⟩ | (_, uW, uG) => ⟨⟨Tryz.f122.ntmps, [], [(.psl 1 (rws G).length, uG)], false, []⟩, frL [(1, I (kk : Int)), (2, .pub (.ptr (ePk bk ms))), (5, .psl 0 1), (19, .pub (.agg [.fn 152 [.agg (ePk bk ms)] [], .fn 153 [.agg (ePk bk ms)] []])), (20, I 2)], [.row [[EV.pub (.v uG)]], .row (rwE G)]⟩) (fun k => 3 - k.1.1) (⟨(0, .bool false, .bool false), by decide⟩) ?_ ?_
  ·
   exact zt _ ⟨rfl, rfl, rfl, rfl, rfl, trivial⟩ (rfl)
  ·
   rintro ⟨⟨k, uW, uG⟩, hk⟩
   replace hk : k < 3 := hk
   have hk3 : k = 0 ∨ k = 1 ∨ k = 2 := by omega
   rcases hk3 with rfl | rfl | rfl
   ·
    dsimp only
    refine zl (zh (zg rfl rfl (qi rfl rfl rfl) (zo (zf (zl (zx rfl (fun h1 => ?_) (fun h1 => ?_)))))))
    ·
     skip
     refine zC (zf (zl (zB (zl (zh ?_)))))
     refine zg rfl rfl (ztp rfl rfl rfl zxf (fun e he => by rw [Tryz.underlying203] at he; cases he; exact zyL) (by omega) (by omega) rfl) ?_
     refine zg rfl rfl (zW rfl rfl) (zo (zf (zl (zh (zg rfl rfl (zq rfl rfl) (zg rfl rfl (zi rfl rfl) (zg rfl rfl (zbX (av := [_]) rfl rfl ⟨rfl, trivial⟩ hw) (zg rfl rfl (zq rfl rfl) (zg rfl rfl (zN rfl rfl rfl) (zg rfl rfl (zN rfl rfl rfl) (zg rfl rfl (zn rfl rfl) ?_)))))))))))
     refine zg rfl rfl (zn rfl rfl) (zo (zf (zl (zh (zg rfl rfl (zi rfl rfl) (zo (zf (zx rfl (fun h2 => ?_) (fun h2 => ?_)))))))))
     ·
      skip
      exfalso; simp at h2
     ·
      skip
      refine zC (zD (zf (zh (zg rfl rfl (zV rfl rfl rfl ⟨(by omega), (by omega)⟩) (zg rfl rfl (zi rfl rfl) (zo ?_))))))
      exact ⟨⟨(1, uW, uG), (by show _ < 3; omega)⟩, by dsimp only; omega, (by refine zt (mem' := [.row []]) [(1, I (kk : Int)), (2, .pub (.ptr (ePk bk ms))), (5, .psl 0 0), (19, .pub (.agg [.fn 152 [.agg (ePk bk ms)] [], .fn 153 [.agg (ePk bk ms)] []])), (20, I 1)] ?_ ?_; exact ⟨rfl, rfl, rfl, rfl, rfl, trivial⟩; exact (rfl))⟩
    ·
     skip
     exfalso; simp at h1
   ·
    dsimp only
    refine zl (zh (zg rfl rfl (qi rfl rfl rfl) (zo (zf (zl (zx rfl (fun h1 => ?_) (fun h1 => ?_)))))))
    ·
     skip
     refine zC (zf (zl (zB (zl (zh ?_)))))
     refine zg rfl rfl (ztp rfl rfl rfl zxf (fun e he => by rw [Tryz.underlying203] at he; cases he; exact zyL) (by omega) (by omega) rfl) ?_
     refine zg rfl rfl (zW rfl rfl) (zo (zf (zl (zh (zg rfl rfl (zq rfl rfl) (zg rfl rfl (zi rfl rfl) ?_))))))
     refine zv2 (av := [_]) rfl rfl rfl rfl rfl hg (fun uG => ?_)
     refine zg rfl rfl (zq rfl rfl) (zg rfl rfl (zN rfl rfl rfl) (zg rfl rfl (zN rfl rfl rfl) (zg rfl rfl (zn rfl rfl) (zg rfl rfl (zn rfl rfl) (zo (zf (zl (zh (zg rfl rfl (zi rfl rfl) (zo (zf (zx rfl (fun h2 => ?_) (fun h2 => ?_)))))))))))))
     ·
      skip
      refine zh (zg rfl rfl (zI rfl rfl) (zg rfl rfl (zi rfl rfl) ?_))
      refine zg rfl rfl (qg (size := 1) (rows := [[_]]) rfl Tryz.underlying26 zzX rfl (by decide) rfl (by decide) ⟨_, _, rfl, (jF rfl), rfl⟩ (by rfl) (by simp [ofV]) rfl (by simp)) ?_
      refine jb rfl (vS rfl rfl rfl rfl (by simp) rfl zBv (by simp) (by simp) (by simp) (by unfold maxLen; simp)) ?_
      refine zg rfl rfl (qo rfl rfl) (zo (zD (zf (zh (zg rfl rfl (zV rfl rfl rfl ⟨(by omega), (by omega)⟩) (zg rfl rfl (zi rfl rfl) (zo ?_)))))))
      exact ⟨⟨(2, uW, uG), (by show _ < 3; omega)⟩, by dsimp only; omega, (by refine zt (mem' := [.row [[EV.pub (.v uG)]], .row (rwE G)]) [(1, I (kk : Int)), (2, .pub (.ptr (ePk bk ms))), (5, .psl 0 1), (19, .pub (.agg [.fn 152 [.agg (ePk bk ms)] [], .fn 153 [.agg (ePk bk ms)] []])), (20, I 2)] ?_ ?_; exact ⟨rfl, rfl, rfl, rfl, rfl, trivial⟩; exact (rfl))⟩
     ·
      skip
      exfalso; simp at h2
    ·
     skip
     exfalso; simp at h1
   ·
    dsimp only
    refine zl (zh (zg rfl rfl (qi rfl rfl rfl) (zo (zf (zl (zx rfl (fun h1 => ?_) (fun h1 => ?_)))))))
    ·
     skip
     exfalso; simp at h1
    ·
     skip
     refine qp (zL (zL (qw (zf (zl ?_)))))
     refine qx (zcT (k := 0) (m := 1) (rows := [[.v uG]]) [5] ?_ ?_ ?_) ?_
     ·
      exact rfl
     ·
      rfl
     ·
      intro d hd; rw [List.mem_singleton] at hd; subst hd; rfl
     refine zh (zg rfl rfl (zq rfl rfl) ?_)
     refine jb rfl (zys (av := [_, _]) (D := [(uG, rws G)]) rfl rfl rfl rfl (fun p hp => by rw [List.mem_singleton] at hp; subst hp; exact ⟨1, List.mem_cons_self .., rfl⟩) (zBh uG G)) ?_
     refine zg rfl rfl (zn rfl rfl) (zo (zf ?_))
     refine qx (zxc (e := .psl 1 (rws G).length) (u := uG) 4 rfl (List.mem_cons_self ..)) ?_
     refine zP ?_
     exact ⟨.inr rfl, zyy (t := 4) (k := 1) (M := rwE G) rfl rfl rfl rfl rfl rfl zvh⟩
theorem zy5 {Gl : Glob} (bk : List Ent) (ms : List Int) (kk : Nat) (hl : ms.length <= 1000) (hkk : kk < ms.length) (W G : LS) (hw : SCall Tryz.prog Gl 152 [.agg (ePk bk ms), .v (.int .i64 (kk : Int))] (fun u => .tuple #[u, .bool true]) (rws W)) (hg : SCall Tryz.prog Gl 153 [.agg (ePk bk ms), .v (.int .i64 (kk : Int))] (fun u => .tuple #[u, .bool true]) (rws G)) : SCall Tryz.prog Gl 122 [.agg (ePk bk ms), .v (.int .i64 (kk : Int))] (fun u => u) (rws (if shF G W = true then G else W)) := by
 refine zvE Tryz.func122 rfl (by kernel_rfl) rfl ?_
 refine zl (zh (zg rfl rfl (jf rfl (zY rfl)) (zg rfl rfl (zn rfl rfl) (zo (zf (zl (zl (zh (zg rfl rfl (zi rfl rfl) (zg rfl rfl (zu rfl rfl zuX) (zg rfl rfl (zA rfl rfl rfl jO) ?_)))))))))))
 refine zg rfl rfl (qh rfl rfl rfl Tryz.underlying23) (zg rfl rfl (qJ rfl rfl rfl) (zo (zf (zx rfl (fun h0 => ?_) (fun h0 => ?_)))))
 ·
  skip
  exfalso; simp [zO] at h0; omega
 ·
  skip
  refine zC (zf (zl (zh (zg rfl rfl (zn rfl rfl) (zo (zf (zl (zl (zh (zg rfl rfl (zZ rfl rfl zwR (by exact zLb rfl)) (zg rfl rfl (zcA (fs := [_]) (cs := []) rfl rfl rfl) ?_)))))))))))
  refine zg rfl rfl (zZ rfl rfl zwR (by exact zLb rfl)) (zg rfl rfl (zcA (fs := [_]) (cs := []) rfl rfl rfl) ?_)
  refine zg rfl rfl (znx (cs := [_, _]) rfl zA1 rfl ⟨_, _, rfl, (zux rfl), ⟨_, _, rfl, (zux rfl), rfl⟩⟩ (by rfl) (by simp [ofV])) ?_
  refine zg rfl rfl (zi rfl rfl) (zo (zf (zB ?_)))
  refine qx (kG 5 rfl) ?_
  refine qy (ι := { k : Nat × Value × Value // k.1 < 3 }) (fun k => match k.1 with | (0, uW, uG) => ⟨Tryz.f122.ntmps, frL [(1, I (kk : Int)), (2, .pub (.ptr (ePk bk ms))), (5, .psl 0 0), (19, .pub (.agg [.fn 152 [.agg (ePk bk ms)] [], .fn 153 [.agg (ePk bk ms)] []])), (20, I 0)], [.row []]⟩ | (1, uW, uG) => ⟨⟨Tryz.f122.ntmps, [], [(.psl 1 (rws W).length, uW)], false, []⟩, frL [(1, I (kk : Int)), (2, .pub (.ptr (ePk bk ms))), (5, .psl 0 1), (19, .pub (.agg [.fn 152 [.agg (ePk bk ms)] [], .fn 153 [.agg (ePk bk ms)] []])), (20, I 1)], [.row [[EV.pub (.v uW)]], .row (rwE W)]⟩ | (_, uW, uG) => ⟨⟨Tryz.f122.ntmps, [], [(.psl 2 (rws G).length, uG), (.psl 1 (rws W).length, uW)], false, []⟩, frL [(1, I (kk : Int)), (2, .pub (.ptr (ePk bk ms))), (5, .psl 0 2), (19, .pub (.agg [.fn 152 [.agg (ePk bk ms)] [], .fn 153 [.agg (ePk bk ms)] []])), (20, I 2)], [.row [[EV.pub (.v uW)], [EV.pub (.v uG)]], .row (rwE W), .row (rwE G)]⟩) (fun k => 3 - k.1.1) (⟨(0, .bool false, .bool false), by decide⟩) ?_ ?_
  ·
   exact zt _ ⟨rfl, rfl, rfl, rfl, rfl, trivial⟩ (rfl)
  ·
   rintro ⟨⟨k, uW, uG⟩, hk⟩
   replace hk : k < 3 := hk
   have hk3 : k = 0 ∨ k = 1 ∨ k = 2 := by omega
   rcases hk3 with rfl | rfl | rfl
   ·
    dsimp only
    refine zl (zh (zg rfl rfl (qi rfl rfl rfl) (zo (zf (zl (zx rfl (fun h1 => ?_) (fun h1 => ?_)))))))
    ·
     skip
     refine zC (zf (zl (zB (zl (zh ?_)))))
     refine zg rfl rfl (ztp rfl rfl rfl zxf (fun e he => by rw [Tryz.underlying203] at he; cases he; exact zyL) (by omega) (by omega) rfl) ?_
     refine zg rfl rfl (zW rfl rfl) (zo (zf (zl (zh (zg rfl rfl (zq rfl rfl) (zg rfl rfl (zi rfl rfl) ?_))))))
     refine zv2 (av := [_]) rfl rfl rfl rfl rfl hw (fun uW => ?_)
     refine zg rfl rfl (zq rfl rfl) (zg rfl rfl (zN rfl rfl rfl) (zg rfl rfl (zN rfl rfl rfl) (zg rfl rfl (zn rfl rfl) (zg rfl rfl (zn rfl rfl) (zo (zf (zl (zh (zg rfl rfl (zi rfl rfl) (zo (zf (zx rfl (fun h2 => ?_) (fun h2 => ?_)))))))))))))
     ·
      skip
      refine zh (zg rfl rfl (zI rfl rfl) (zg rfl rfl (zi rfl rfl) ?_))
      refine zg rfl rfl (qg (size := 1) (rows := [[_]]) rfl Tryz.underlying26 zzX rfl (by decide) rfl (by decide) ⟨_, _, rfl, (jF rfl), rfl⟩ (by rfl) (by simp [ofV]) rfl (by simp)) ?_
      refine jb rfl (vS rfl rfl rfl rfl (by simp) rfl zBv (by simp) (by simp) (by simp) (by unfold maxLen; simp)) ?_
      refine zg rfl rfl (qo rfl rfl) (zo (zD (zf (zh (zg rfl rfl (zV rfl rfl rfl ⟨(by omega), (by omega)⟩) (zg rfl rfl (zi rfl rfl) (zo ?_)))))))
      exact ⟨⟨(1, uW, uG), (by show _ < 3; omega)⟩, by dsimp only; omega, (by refine zt (mem' := [.row [[EV.pub (.v uW)]], .row (rwE W)]) [(1, I (kk : Int)), (2, .pub (.ptr (ePk bk ms))), (5, .psl 0 1), (19, .pub (.agg [.fn 152 [.agg (ePk bk ms)] [], .fn 153 [.agg (ePk bk ms)] []])), (20, I 1)] ?_ ?_; exact ⟨rfl, rfl, rfl, rfl, rfl, trivial⟩; exact (rfl))⟩
     ·
      skip
      exfalso; simp at h2
    ·
     skip
     exfalso; simp at h1
   ·
    dsimp only
    refine zl (zh (zg rfl rfl (qi rfl rfl rfl) (zo (zf (zl (zx rfl (fun h1 => ?_) (fun h1 => ?_)))))))
    ·
     skip
     refine zC (zf (zl (zB (zl (zh ?_)))))
     refine zg rfl rfl (ztp rfl rfl rfl zxf (fun e he => by rw [Tryz.underlying203] at he; cases he; exact zyL) (by omega) (by omega) rfl) ?_
     refine zg rfl rfl (zW rfl rfl) (zo (zf (zl (zh (zg rfl rfl (zq rfl rfl) (zg rfl rfl (zi rfl rfl) ?_))))))
     refine zv2 (av := [_]) rfl rfl rfl rfl rfl hg (fun uG => ?_)
     refine zg rfl rfl (zq rfl rfl) (zg rfl rfl (zN rfl rfl rfl) (zg rfl rfl (zN rfl rfl rfl) (zg rfl rfl (zn rfl rfl) (zg rfl rfl (zn rfl rfl) (zo (zf (zl (zh (zg rfl rfl (zi rfl rfl) (zo (zf (zx rfl (fun h2 => ?_) (fun h2 => ?_)))))))))))))
     ·
      skip
      refine zh (zg rfl rfl (zI rfl rfl) (zg rfl rfl (zi rfl rfl) ?_))
      refine zg rfl rfl (qg (size := 1) (rows := [[_]]) rfl Tryz.underlying26 zzX rfl (by decide) rfl (by decide) ⟨_, _, rfl, (jF rfl), rfl⟩ (by rfl) (by simp [ofV]) rfl (by simp)) ?_
      refine jb rfl (vS rfl rfl rfl rfl (by simp) rfl zBv (by simp) (by simp) (by simp) (by unfold maxLen; simp)) ?_
      refine zg rfl rfl (qo rfl rfl) (zo (zD (zf (zh (zg rfl rfl (zV rfl rfl rfl ⟨(by omega), (by omega)⟩) (zg rfl rfl (zi rfl rfl) (zo ?_)))))))
      exact ⟨⟨(2, uW, uG), (by show _ < 3; omega)⟩, by dsimp only; omega, (by refine zt (mem' := [.row [[EV.pub (.v uW)], [EV.pub (.v uG)]], .row (rwE W), .row (rwE G)]) [(1, I (kk : Int)), (2, .pub (.ptr (ePk bk ms))), (5, .psl 0 2), (19, .pub (.agg [.fn 152 [.agg (ePk bk ms)] [], .fn 153 [.agg (ePk bk ms)] []])), (20, I 2)] ?_ ?_; exact ⟨rfl, rfl, rfl, rfl, rfl, trivial⟩; exact (rfl))⟩
     ·
      skip
      exfalso; simp at h2
    ·
     skip
     exfalso; simp at h1
   ·
    dsimp only
    refine zl (zh (zg rfl rfl (qi rfl rfl rfl) (zo (zf (zl (zx rfl (fun h1 => ?_) (fun h1 => ?_)))))))
    ·
     skip
     exfalso; simp at h1
    ·
     skip
     refine qp (zL (zL (qw (zf (zl ?_)))))
     refine qx (zcT (k := 0) (m := 2) (rows := [[.v uW], [.v uG]]) [5] ?_ ?_ ?_) ?_
     ·
      exact rfl
     ·
      rfl
     ·
      intro d hd; rw [List.mem_singleton] at hd; subst hd; rfl
     refine zh (zg rfl rfl (zq rfl rfl) ?_)
     refine jb rfl (zys (av := [_, _]) (D := [(uW, rws W), (uG, rws G)]) rfl rfl rfl rfl (fun p hp => by simp only [List.mem_cons, List.not_mem_nil, or_false] at hp; rcases hp with rfl | rfl; exact ⟨1, List.mem_cons_of_mem _ (List.mem_cons_self ..), rfl⟩; exact ⟨2, List.mem_cons_self .., rfl⟩) (zBl uW uG W G)) ?_
     refine zg rfl rfl (zn rfl rfl) (zo (zf ?_))
     refine Or.elim (Bool.eq_false_or_eq_true (shF G W)) (fun hsh => ?_) (fun hsh => ?_)
     ·
      refine qx (zxc (e := .psl 2 (rws G).length) (u := uG) 4 (show EV.pub (.v (if shF G W = true then uG else uW)) = .pub (.v uG) from by rw [if_pos hsh]) (List.mem_cons_self ..)) ?_
      refine zP ?_
      exact ⟨.inr rfl, zyy (t := 4) (k := 2) (M := rwE G) rfl rfl rfl rfl (by rw [if_pos hsh]; rfl) (by rw [if_pos hsh]) zvh⟩
     ·
      refine qx (zxc (e := .psl 1 (rws W).length) (u := uW) 4 (show EV.pub (.v (if shF G W = true then uG else uW)) = .pub (.v uW) from by rw [if_neg (by rw [hsh]; decide)]) (List.mem_cons_of_mem _ (List.mem_cons_self ..))) ?_
      refine zP ?_
      exact ⟨.inr rfl, zyy (t := 4) (k := 1) (M := rwE W) rfl rfl rfl rfl (by rw [if_neg (show ¬ shF G W = true by rw [hsh]; decide)]; rfl) (by rw [if_neg (show ¬ shF G W = true by rw [hsh]; decide)]) zvh⟩
end Go.Av
end
