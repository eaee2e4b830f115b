
import Derived.Test.YtaphehlgijlfeaaGreatDoorWiX4
import Derived.Test.YtaphehlgijlfeaaGreatDoorWiQ
import Derived.Test.YtaphehlgijlfeaaGreatDoorWiO
import Derived.Test.YtaphehlgijlfeaaGreatDoorWiB2
import Derived.Test.YtaphehlgijlfeaaGreatDoorWiG
import Derived.Test.YtaphehlgijlfeaaGreatDoorWiC
set_option linter.unusedVariables false
set_option linter.unusedSimpArgs false
section
namespace Go.Av
open Go.Proofs
set_option maxRecDepth 100000
set_option maxHeartbeats 1000000
variable {G : Glob}
theorem zB6 {L : List (List Int)} {m : List Int} (hm : m ∈ L) (i p : Nat) : chB L i p (L.drop 1).length = 63 ∨ chB L i p (L.drop 1).length = chD (dig (m.getD i 0) p) := by
 unfold chB
 cases ha : agN L i p (L.drop 1).length with
 | false => exact .inl rfl
 | true =>
  refine .inr ?_
  rw [if_pos rfl]
  cases L with
  | nil => cases hm
  | cons z t =>
   rcases List.mem_cons.1 hm with rfl | hm
   ·
    rfl
   ·
    unfold agN at ha
    rw [List.all_eq_true] at ha
    have := ha m (by simpa using hm)
    simp only [beq_iff_eq] at this
    rw [this]
theorem zEi {L : List (List Int)} {K i : Nat} (h : i < K) : (knS L K).getD i [] = knB L i (L.drop 1).length := by
 unfold knS
 rw [List.getD_eq_getElem?_getD, List.getElem?_map, List.getElem?_range h]; rfl
theorem zEd {L : List (List Int)} {i j p : Nat} (h : p < 5) : (knB L i j).getD p 0 = chB L i p j := by
 unfold knB
 rw [List.getD_eq_getElem?_getD, List.getElem?_map, List.getElem?_range h]; rfl
theorem zD6 {n : Int} {p : Nat} (h : p < 5) : (grp n).getD p 0 = chD (dig n p) := by
 have := ztM (n := n) h
 rcases (by omega : p = 0 ∨ p = 1 ∨ p = 2 ∨ p = 3 ∨ p = 4) with rfl | rfl | rfl | rfl | rfl <;> (rw [← this]; rfl)
theorem zzQ {m : List Int} {i : Nat} (h : i < m.length) : (jQ m).getD i [] = grp (m.getD i 0) := by
 rw [show jQ m = m.map grp ++ [(chk m).chs] by simp [jQ, vV, grp, Function.comp_def], List.getD_eq_getElem?_getD, List.getElem?_append_left (by simpa using h)]
 simp [h]
theorem zDO {L : List (List Int)} {m : List Int} (hm : m ∈ L) : ∀ i p, i < m.length -> p < 5 -> ((knS L m.length).getD i []).getD p 0 = 63 ∨ ((knS L m.length).getD i []).getD p 0 = ((jQ m).getD i []).getD p 0 := fun i p hi hp => by
 rw [zEi hi, zEd hp, zzQ hi, zD6 hp]
 exact zB6 hm i p
theorem zED (L : List (List Int)) (K : Nat) : ∀ s ∈ knS L K, s.length = 5 := fun s hs => by
 obtain ⟨q, _, rfl⟩ := List.mem_map.1 hs
 rfl
theorem zDx {l : List (List UInt8)} (h : ∀ s ∈ l, s.length = 5) {i : Nat} (hi : i < l.length) : (l.getD i []).length = 5 := by
 rw [List.getD_eq_getElem?_getD, List.getElem?_eq_getElem hi]; exact h _ (List.getElem_mem hi)
theorem zEA {a b : UInt8} (h : a = 63 ∨ a = b) (h2 : (((a.toNat : Int) != 63) && ((a.toNat : Int) != (b.toNat : Int))) = true) : False := by
 simp only [zLa, bne_iff_ne, ne_eq] at h2
 rcases h with rfl | rfl
 ·
  exact h2.1 Y
 ·
  exact h2.2 Y
theorem zE6 (ks : List (List UInt8)) (m : List Int) (hm6 : m.length <= 1000) (hmb : ∀ n ∈ m, 0 <= n /\ n <= 1000000000000) (hkl : ks.length = m.length) (hk5 : ∀ s ∈ ks, s.length = 5) (hmt : ∀ i p, i < m.length -> p < 5 -> (ks.getD i []).getD p 0 = 63 ∨ (ks.getD i []).getD p 0 = ((jQ m).getD i []).getD p 0) : ACall Tryz.prog G 69 [jD ks, zO m] (.v (.bool true)) := by
 have hgl := zvj m
 refine zS Tryz.func69 Y (by kernel_rfl) Y ?_
 refine zuy (zh (zE8 (zn Y Y) (zo (zf (zuy (zh (zE8 (zq Y Y) (zE8 (zy (av := [_]) Y ⟨Y, trivial⟩ (f35 m hm6 hmb)) (zE8 (zW Y Y) (zo (zf ?_)))))))))))
 refine zuy (zuy (zh (zE8 (zn Y Y) (zo (zf (zB ?_))))))
 refine qy (ι := { i : Nat // i <= m.length }) (fun i => ⟨Tryz.f69.ntmps, frL [(0, .pub (jD ks)), (1, .pub (zO m)), (5, .pub (jD (jQ m))), (6, I (i.1 : Int))], []⟩) (fun i => m.length - i.1) (⟨0, Nat.zero_le _⟩) ?_ ?_
 ·
  exact zt _ ⟨Y, Y, Y, Y, trivial⟩ (Y)
 ·
  rintro ⟨i, hi⟩
  dsimp only
  refine zuy (zuy (zh (zE8 (zi Y Y) (zE8 (zq Y Y) (zE8 (zuB Y Y Tryz.underlying34) (zE8 (qi Y Y Y) (zo (zf (zx Y (fun h_0 => ?_) (fun h_0 => ?_))))))))))
  ·
   have him : i < m.length := by simp only [decide_eq_true_eq] at h_0; omega
   have hw5 : (ks.getD i []).length = 5 := zDx hk5 (by omega)
   have hg5 : ((jQ m).getD i []).length = 5 := zDx (zx8 m) (by omega)
   refine zC (zf (zuy (zB (zuy (zuy (zh (zE8 (zi Y Y) (zE8 (zq Y Y) (zE8 (zuB Y Y Tryz.underlying23) ?_)))))))))
   refine zE8 (zuW (y := false) (by simp; omega) (zbe Y Y Y)) ?_
   refine zE8 (zi Y Y) (zE9 Y (fun hg => zq Y Y) (zE9 Y (fun hg => zi Y Y) (zE9 Y (fun hg => zG Y Y Y yJ (by omega) (zk9 (k := i) (by omega)) vZ) (zE9 Y (fun hg => zA Y (Y) Y ty9) (zE9 Y (fun hg => wE Y Y Tryz.underlying9) ?_)))))
   refine zE9 Y (fun hg => zuW (y := false) (by rw [hw5]; rfl) (vg Y Y Y)) ?_
   refine zE8 (qU Y Y Y Y) (zo (zf (zx Y (fun h_1 => ?_) (fun h_1 => ?_))))
   ·
    exact absurd (show false = true from h_1) (by decide)
   ·
    refine zC (zf (zuy (zh (zE8 (zn Y Y) (zo (zf (zB ?_)))))))
    refine qy (ι := { p : Nat // p <= 5 }) (fun p => ⟨Tryz.f69.ntmps, frL [(0, .pub (jD ks)), (1, .pub (zO m)), (5, .pub (jD (jQ m))), (6, I (i : Int)), (7, I (p.1 : Int))], []⟩) (fun p => 5 - p.1) (⟨0, Nat.zero_le _⟩) ?_ ?_
    ·
     exact zt _ ⟨Y, Y, Y, Y, Y, trivial⟩ (Y)
    ·
     rintro ⟨p, hp⟩
     dsimp only
     refine zuy (zuy (zh (zE8 (zi Y Y) (zE8 (qi Y Y Y) (zo (zf (zx Y (fun h_2 => ?_) (fun h_2 => ?_))))))))
     ·
      have hp5 : p < 5 := by simp only [decide_eq_true_eq] at h_2; omega
      refine zC (zf (zuy (zB (zuy ?_))))
      refine qY mixed (by kernel_rfl) Y ?_
      refine zH Y (zq Y Y) (zH Y (zi Y Y) (zH Y (zG Y Y Y yJ (by omega) (zk9 (k := i) (by omega)) vZ) (zH Y (zA Y Y Y ty9) (zH Y (zi Y Y) (zH Y (wC (c := (ks.getD i []).getD p 0) Y Y Y Tryz.underlying9 (by omega) (zjB (k := p) (by omega))) (zH Y (vg Y Y Y) (zH Y (zi Y Y) (jm Y (fun hg => zq Y Y) (jm Y (fun hg => zi Y Y) (jm Y (fun hg => zG Y (ifp hg) (ifp hg) yJ (by omega) (zk9 (k := i) (by omega)) vZ) (jm Y (fun hg => zA Y (ifp hg) Y ty9) ?_)))))))))))
      refine jm Y (fun hg => zi Y Y) (jm Y (fun hg => wC (c := (ks.getD i []).getD p 0) Y (ifp hg) (ifp hg) Tryz.underlying9 (by omega) (zjB (k := p) (by omega))) (jm Y (fun hg => zq Y Y) (jm Y (fun hg => zi Y Y) (jm Y (fun hg => zG Y (ifp hg) (ifp hg) yJ (by omega) (zk9 (k := i) (by omega)) vZ) (jm Y (fun hg => zA Y (ifp hg) Y ty9) (jm Y (fun hg => zi Y Y) (jm Y (fun hg => wC (c := ((jQ m).getD i []).getD p 0) Y (ifp hg) (ifp hg) Tryz.underlying9 (by omega) (zjB (k := p) (by omega))) (jm Y (fun hg => vg Y (ifp hg) (ifp hg)) (zH Y (qI Y Y Y Y) (jw (zf (zx Y (fun h_3 => ?_) (fun h_3 => ?_)))))))))))))
      ·
       exact (zEA (hmt i p him hp5) h_3).elim
      ·
       refine zC (zD (zf (zh (zE8 (zi Y Y) (zE8 (zV Y Y Y ⟨(by omega), (by omega)⟩) (zE8 (zn Y Y) (zo ?_)))))))
       exact ⟨⟨p + 1, by omega⟩, by dsimp only; omega, zt _ ⟨Y, Y, Y, Y, Y, trivial⟩ (Y)⟩
     ·
      refine qp (zL (zL (qw (zD (zf (zh (zE8 (zi Y Y) (zE8 (zV Y Y Y ⟨(by omega), (by omega)⟩) (zE8 (zn Y Y) (zo ?_))))))))))
      exact ⟨⟨i + 1, by omega⟩, by dsimp only; omega, zt _ ⟨Y, Y, Y, Y, trivial⟩ (Y)⟩
  ·
   have him : i = m.length := by simp only [decide_eq_false_iff_not] at h_0; omega
   refine qp (zL (zL (qw (zf (zuy (zh (zE8 (zq Y Y) (zE8 (zuB Y Y Tryz.underlying34) (zE8 (zq Y Y) (zE8 (zuB Y Y Tryz.underlying23) (zE8 (qJ Y Y Y) ?_)))))))))))
   refine zE8 (zn Y Y) (zo (zf (zP ?_)))
   exact ⟨.inr Y, AVle.of (by rw [hkl]; simp)⟩
theorem zzH (l : List (List (List UInt8))) {b : Bool} (h : zos l = b) : ACall Tryz.prog G 22 [qO l] (.v (.bool b)) := h ▸ f22 l
theorem zEb {c : Cod} {l : List (List (List UInt8))} (hc : c.fields.length <= 1000 /\ c.turns.length <= 1000) (hl : l.length <= 1000) (hgl : ∀ g ∈ l, g.length <= 1000) {L : List (List Int)} {e : Int} (h1 : xU c l = L) (h2 : kJ c l = e) : ACall Tryz.prog G 24 [.agg (qK c), qO l] (.tup [jc L, ei e]) := h1 ▸ h2 ▸ f24 c l hc hl hgl
theorem zDK {c : Cod} {l : List (List (List UInt8))} (hc : c.fields.length <= 1000 /\ c.turns.length <= 1000) (hl : l.length <= 1000) (hgl : ∀ g ∈ l, g.length <= 1000) {L : List (List UInt8)} {e : Int} (h1 : knR c l = L) (h2 : kJ c l = e) : ACall Tryz.prog G 25 [.agg (qK c), qO l] (.tup [jD L, ei e]) := h1 ▸ h2 ▸ f25 c l hc hl hgl
theorem zEy {c : Cod} {l : List (List (List UInt8))} (hc : c.fields.length <= 1000 /\ c.turns.length <= 1000) (hl : l.length <= 1000) (hgl : ∀ g ∈ l, g.length <= 1000) {L : List Int} {e : Int} (h1 : clR c l = L) (h2 : clE c l = e) : ACall Tryz.prog G 37 [.agg (qK c), qO l] (.tup [zO L, ei e]) := h1 ▸ h2 ▸ f37 c l hc hl hgl
theorem zD1 {L : List (List Int)} {m : List Int} (hL : L.length <= 1000000000) (hm : ∀ x ∈ L, x.length <= 1000) {b : Bool} (h : zw7 L m = b) : ACall Tryz.prog G 34 [jc L, zO m] (.v (.bool b)) := h ▸ f34 L m hL hm
theorem zwt {c : Cod} {m : List Int} (hm : wS c m = true) : jX c (jQ m) = true :=
 zC1 (by rw [vG, wU hm]) (zx8 m) (fun j q hj hq => by rw [zyF (by rw [vG] at hj; omega) hq]; exact zCW) (by rw [zB9]; omega)
theorem zxA {c : Cod} {m : List Int} (hc : jA c = true) (hm : wS c m = true) : zmV c m (jQ m) = true := by
 have hcb := wI hc
 refine zBH (n := 0) (by have := hcb.2.1; omega) ((zBX hc hm (zwt hm)).2 fun s hs => ?_)
 obtain ⟨hq, hj⟩ := zdc.1 hs
 rw [zyF (by rw [wU hm]; omega) hq]
 simp only [rgt, Bool.or_eq_true, decide_eq_true_eq, beq_iff_eq]; omega
theorem zD3 {L : List (List Int)} {m : List Int} (h : m ∉ L) : zw7 L m = false := by
 cases hh : zw7 L m with
 | false => rfl
 | true => exact absurd (zwC.1 hh) h
theorem zFc {c : Cod} {l : List (List (List UInt8))} {m : List Int} {b : Bool} (hc : jA c = true) (hl : l.length <= 3) (hcp : ∀ g ∈ l, jX c g = true) (hm : wS c m = true) (wa : l.all (zmV c m) = b) : zw7 (kC c l) m = b := by
 cases b with
 | true => exact zwC.2 ((zc0 hc hl hcp).2 ⟨hm, List.all_eq_true.1 wa⟩)
 | false => exact zD3 fun h => by rw [List.all_eq_true.2 ((zc0 hc hl hcp).1 h).2] at wa; cases wa
theorem zFf (b : Bool) : (b != b) = false := by cases b <;> rfl
theorem zFe (b : Bool) : (b && !true) = false := by cases b <;> rfl
theorem zxI {l : List (List (List UInt8))} {p : List (List UInt8) -> Bool} {i : Nat} (h : i < l.length) : (l.take (i + 1)).all p = ((l.take i).all p && p (l.getD i [])) := by
 rw [List.take_add_one, List.getElem?_eq_getElem h, List.all_append]
 simp [h]
theorem zxE {l : List (List (List UInt8))} {k : Nat} (h : k < l.length) : (l.map fun g => [jD g])[k]? = some [jD (l.getD k [])] := by simp [h]
theorem get_mem {l : List (List (List UInt8))} {k : Nat} (h : k < l.length) : l.getD k [] ∈ l := by
 rw [List.getD_eq_getElem?_getD, List.getElem?_eq_getElem h]; exact List.getElem_mem h
theorem zEp (hk : KN G) (c : Cod) (l : List (List (List UInt8))) (m : List Int) (hs : y7 c = false) : ACall Tryz.prog G 15 [.agg (qK c), qO l, zO m] (.v (.bool true)) := by
 refine zS Tryz.func15 Y (by kernel_rfl) Y ?_
 refine zuy (zh (zE8 (jf Y (zY Y)) (zE8 (zn Y Y) (zo (zf (zuy (zuy (zh (zE8 (zZ Y Y wH (by exact zLb Y)) (zE8 (zy (av := [_]) Y ⟨Y, trivial⟩ (zoc c hs)) (zE8 (je Y Y) ?_)))))))))))
 refine zE8 (zi Y Y) (zE9 Y (fun hg => zq Y Y) ?_)
 refine zk (x := .pub (.tup [])) Y Y Y (fun hg => absurd hg (by decide)) ?_
 refine zk (x := .pub (.tup [])) Y Y Y (fun hg => absurd hg (by decide)) ?_
 refine zE8 (zU Y Y (fun _ => rfl) (fun h => absurd h (by decide))) ?_
 refine zE8 (zi Y Y) (zE9 Y (fun hg => zq Y Y) ?_)
 refine zk (x := .pub (.tup [])) Y Y Y (fun hg => absurd hg (by decide)) ?_
 refine zk (x := .pub (.tup [])) Y Y Y (fun hg => absurd hg (by decide)) ?_
 refine zE8 (zU Y Y (fun _ => rfl) (fun h => absurd h (by decide))) ?_
 refine zE8 (zi Y Y) (zE9 Y (fun hg => zZ Y Y wH (by exact zLb Y)) (zE9 Y (fun hg => zq Y Y) ?_))
 refine zk (x := .pub (.tup [])) Y Y Y (fun hg => absurd hg (by decide)) ?_
 refine zk (x := .pub (.tup [])) Y Y Y (fun hg => absurd hg (by decide)) ?_
 refine zE8 (zU Y Y (fun _ => rfl) (fun h => absurd h (by decide))) ?_
 refine zE8 (zi Y Y) (zE9 Y (fun hg => zZ Y Y wH (by exact zLb Y)) (zE9 Y (fun hg => zq Y Y) ?_))
 refine zk (x := .pub (.tup [])) Y Y Y (fun hg => absurd hg (by decide)) ?_
 refine zk (x := .pub (.tup [])) Y Y Y (fun hg => absurd hg (by decide)) ?_
 refine zE8 (zU Y Y (fun _ => rfl) (fun h => absurd h (by decide))) ?_
 refine zo (zf (zx Y (fun h_0 => ?_) (fun h_0 => ?_)))
 ·
  refine zuy (zh (zE8 (zy (av := []) Y trivial hk) (zE8 (zn Y Y) (zo (zf (zP (zQ ?_)))))))
  exact ⟨.inr Y, AVle.refl _⟩
 ·
  exact absurd (show true = false from h_0) (by decide)
theorem zDN (hk : KN G) (c : Cod) (l : List (List (List UInt8))) (m : List Int) (hs : y7 c = true) (hf : zos l = false) : ACall Tryz.prog G 15 [.agg (qK c), qO l, zO m] (.v (.bool true)) := by
 have zc := zav hs
 refine zS Tryz.func15 Y (by kernel_rfl) Y ?_
 refine zuy (zh (zE8 (jf Y (zY Y)) (zE8 (zn Y Y) (zo (zf (zuy (zuy (zh (zE8 (zZ Y Y wH (by exact zLb Y)) (zE8 (zy (av := [_]) Y ⟨Y, trivial⟩ (zoc c hs)) (zE8 (je Y Y) ?_)))))))))))
 refine zE8 (zi Y Y) (zE9 Y (fun hg => zq Y Y) (zE9 Y (fun hg => zy (av := [_]) Y ⟨(Y), trivial⟩ (zzH l hf)) (zE9 Y (fun hg => je Y (Y)) (zE8 (qU Y Y Y Y) (zE8 (zi Y Y) (zE9 Y (fun hg => zq Y Y) ?_))))))
 refine zk (x := .pub (.tup [])) Y Y Y (fun hg => absurd hg (by decide)) ?_
 refine zk (x := .pub (.tup [])) Y Y Y (fun hg => absurd hg (by decide)) ?_
 refine zE8 (zU Y Y (fun _ => rfl) (fun h => absurd h (by decide))) ?_
 refine zE8 (zi Y Y) (zE9 Y (fun hg => zZ Y Y wH (by exact zLb Y)) (zE9 Y (fun hg => zq Y Y) ?_))
 refine zk (x := .pub (.tup [])) Y Y Y (fun hg => absurd hg (by decide)) ?_
 refine zk (x := .pub (.tup [])) Y Y Y (fun hg => absurd hg (by decide)) ?_
 refine zE8 (zU Y Y (fun _ => rfl) (fun h => absurd h (by decide))) ?_
 refine zE8 (zi Y Y) (zE9 Y (fun hg => zZ Y Y wH (by exact zLb Y)) (zE9 Y (fun hg => zq Y Y) ?_))
 refine zk (x := .pub (.tup [])) Y Y Y (fun hg => absurd hg (by decide)) ?_
 refine zk (x := .pub (.tup [])) Y Y Y (fun hg => absurd hg (by decide)) ?_
 refine zE8 (zU Y Y (fun _ => rfl) (fun h => absurd h (by decide))) ?_
 refine zo (zf (zx Y (fun h_0 => ?_) (fun h_0 => ?_)))
 ·
  refine zuy (zh (zE8 (zy (av := []) Y trivial hk) (zE8 (zn Y Y) (zo (zf (zP (zQ ?_)))))))
  exact ⟨.inr Y, AVle.refl _⟩
 ·
  exact absurd (show true = false from h_0) (by decide)
theorem zEu (hk : KN G) (c : Cod) (l : List (List (List UInt8))) (m : List Int) (hs : y7 c = true) (hf : zos l = true) (hm6 : 6 < m.length) : ACall Tryz.prog G 15 [.agg (qK c), qO l, zO m] (.v (.bool true)) := by
 have zc := zav hs
 have zl := zb8 hf
 refine zS Tryz.func15 Y (by kernel_rfl) Y ?_
 refine zuy (zh (zE8 (jf Y (zY Y)) (zE8 (zn Y Y) (zo (zf (zuy (zuy (zh (zE8 (zZ Y Y wH (by exact zLb Y)) (zE8 (zy (av := [_]) Y ⟨Y, trivial⟩ (zoc c hs)) (zE8 (je Y Y) ?_)))))))))))
 refine zE8 (zi Y Y) (zE9 Y (fun hg => zq Y Y) (zE9 Y (fun hg => zy (av := [_]) Y ⟨(Y), trivial⟩ (zzH l hf)) (zE9 Y (fun hg => je Y (Y)) (zE8 (qU Y Y Y Y) (zE8 (zi Y Y) (zE9 Y (fun hg => zq Y Y) (zE9 Y (fun hg => zuB Y Y Tryz.underlying23) ?_)))))))
 refine zE9 Y (fun hg => zuW (y := true) (by simp; omega) (qR Y Y Y)) ?_
 refine zE8 (qU Y Y Y Y) (zE8 (zi Y Y) (zE9 Y (fun hg => zZ Y Y wH (by exact zLb Y)) (zE9 Y (fun hg => zq Y Y) (zE9 Y (fun hg => zy (av := [_, _]) Y ⟨((if_pos hg)), ((if_pos hg)), trivial⟩ (f26 c l zc zl.1 zl.2)) ?_))))
 refine zk (x := .pub (.tup [])) Y Y Y (fun hg => absurd hg (by decide)) ?_
 refine zE8 (zU Y Y (fun _ => rfl) (fun h => absurd h (by decide))) ?_
 refine zE8 (zi Y Y) (zE9 Y (fun hg => zZ Y Y wH (by exact zLb Y)) (zE9 Y (fun hg => zq Y Y) ?_))
 refine zk (x := .pub (.tup [])) Y Y Y (fun hg => absurd hg (by decide)) ?_
 refine zk (x := .pub (.tup [])) Y Y Y (fun hg => absurd hg (by decide)) ?_
 refine zE8 (zU Y Y (fun _ => rfl) (fun h => absurd h (by decide))) ?_
 refine zo (zf (zx Y (fun h_0 => ?_) (fun h_0 => ?_)))
 ·
  refine zuy (zh (zE8 (zy (av := []) Y trivial hk) (zE8 (zn Y Y) (zo (zf (zP (zQ ?_)))))))
  exact ⟨.inr Y, AVle.refl _⟩
 ·
  exact absurd (show true = false from h_0) (by decide)
theorem zD5 (hk : KN G) (c : Cod) (l : List (List (List UInt8))) (m : List Int) (hs : y7 c = true) (hf : zos l = true) (hm6 : m.length <= 6) (hA : yT c l ≠ 0) : ACall Tryz.prog G 15 [.agg (qK c), qO l, zO m] (.v (.bool true)) := by
 have zc := zav hs
 have zl := zb8 hf
 refine zS Tryz.func15 Y (by kernel_rfl) Y ?_
 refine zuy (zh (zE8 (jf Y (zY Y)) (zE8 (zn Y Y) (zo (zf (zuy (zuy (zh (zE8 (zZ Y Y wH (by exact zLb Y)) (zE8 (zy (av := [_]) Y ⟨Y, trivial⟩ (zoc c hs)) (zE8 (je Y Y) ?_)))))))))))
 refine zE8 (zi Y Y) (zE9 Y (fun hg => zq Y Y) (zE9 Y (fun hg => zy (av := [_]) Y ⟨(Y), trivial⟩ (zzH l hf)) (zE9 Y (fun hg => je Y (Y)) (zE8 (qU Y Y Y Y) (zE8 (zi Y Y) (zE9 Y (fun hg => zq Y Y) (zE9 Y (fun hg => zuB Y Y Tryz.underlying23) ?_)))))))
 refine zE9 Y (fun hg => zuW (y := false) (by simp; omega) (qR Y Y Y)) ?_
 refine zE8 (qU Y Y Y Y) (zE8 (zi Y Y) (zE9 Y (fun hg => zZ Y Y wH (by exact zLb Y)) (zE9 Y (fun hg => zq Y Y) (zE9 Y (fun hg => zy (av := [_, _]) Y ⟨(Y), (Y), trivial⟩ (f26 c l zc zl.1 zl.2)) ?_))))
 refine zE9 Y (fun hg => zuW (y := true) (by simp [hA]) (vg Y Y Y)) ?_
 refine zE8 (qU Y Y Y Y) (zE8 (zi Y Y) (zE9 Y (fun hg => zZ Y Y wH (by exact zLb Y)) (zE9 Y (fun hg => zq Y Y) ?_)))
 refine zk (x := .pub (.tup [])) Y Y Y (fun hg => absurd hg (by decide)) ?_
 refine zk (x := .pub (.tup [])) Y Y Y (fun hg => absurd hg (by decide)) ?_
 refine zE8 (zU Y Y (fun _ => rfl) (fun h => absurd h (by decide))) ?_
 refine zo (zf (zx Y (fun h_0 => ?_) (fun h_0 => ?_)))
 ·
  refine zuy (zh (zE8 (zy (av := []) Y trivial hk) (zE8 (zn Y Y) (zo (zf (zP (zQ ?_)))))))
  exact ⟨.inr Y, AVle.refl _⟩
 ·
  exact absurd (show true = false from h_0) (by decide)
theorem zDZ (hk : KN G) (c : Cod) (l : List (List (List UInt8))) (m : List Int) (hs : y7 c = true) (hf : zos l = true) (hm6 : m.length <= 6) (hA : yT c l = 0) (hmm : wS c m = false) : ACall Tryz.prog G 15 [.agg (qK c), qO l, zO m] (.v (.bool true)) := by
 have zc := zav hs
 have zl := zb8 hf
 refine zS Tryz.func15 Y (by kernel_rfl) Y ?_
 refine zuy (zh (zE8 (jf Y (zY Y)) (zE8 (zn Y Y) (zo (zf (zuy (zuy (zh (zE8 (zZ Y Y wH (by exact zLb Y)) (zE8 (zy (av := [_]) Y ⟨Y, trivial⟩ (zoc c hs)) (zE8 (je Y Y) ?_)))))))))))
 refine zE8 (zi Y Y) (zE9 Y (fun hg => zq Y Y) (zE9 Y (fun hg => zy (av := [_]) Y ⟨(Y), trivial⟩ (zzH l hf)) (zE9 Y (fun hg => je Y (Y)) (zE8 (qU Y Y Y Y) (zE8 (zi Y Y) (zE9 Y (fun hg => zq Y Y) (zE9 Y (fun hg => zuB Y Y Tryz.underlying23) ?_)))))))
 refine zE9 Y (fun hg => zuW (y := false) (by simp; omega) (qR Y Y Y)) ?_
 refine zE8 (qU Y Y Y Y) (zE8 (zi Y Y) (zE9 Y (fun hg => zZ Y Y wH (by exact zLb Y)) (zE9 Y (fun hg => zq Y Y) (zE9 Y (fun hg => zy (av := [_, _]) Y ⟨(Y), (Y), trivial⟩ (f26 c l zc zl.1 zl.2)) ?_))))
 refine zE9 Y (fun hg => zuW (y := false) (by simp [hA]) (vg Y Y Y)) ?_
 refine zE8 (qU Y Y Y Y) (zE8 (zi Y Y) (zE9 Y (fun hg => zZ Y Y wH (by exact zLb Y)) (zE9 Y (fun hg => zq Y Y) (zE9 Y (fun hg => zy (av := [_, _]) Y ⟨(Y), (Y), trivial⟩ (zCJ c m (by omega) hmm)) (zE9 Y (fun hg => je Y (Y)) (zE8 (qU Y Y Y Y) (zo (zf (zx Y (fun h_0 => ?_) (fun h_0 => ?_))))))))))
 ·
  refine zuy (zh (zE8 (zy (av := []) Y trivial hk) (zE8 (zn Y Y) (zo (zf (zP (zQ ?_)))))))
  exact ⟨.inr Y, AVle.refl _⟩
 ·
  exact absurd (show true = false from h_0) (by decide)
theorem zEY (hk : KN G) (c : Cod) (l : List (List (List UInt8))) (m : List Int) (hs : y7 c = true) (hf : zos l = true) (hm6 : m.length <= 6) (hA : yT c l = 0) (hmm : wS c m = true) (hN : kC c l ≠ []) (b : Bool) (wa : l.all (zmV c m) = b) : ACall Tryz.prog G 15 [.agg (qK c), qO l, zO m] (.v (.bool true)) := by
 have zc := zav hs
 have zl := zb8 hf
 obtain ⟨q1, q2, q3, q4⟩ := zh6 hA
 have hmb := zlx q1 hmm
 have wc := zwt hmm
 have wo := zxA q1 hmm
 have w2 := zp7 hA hN
 have w1 : xU c l = kC c l := (zoA w2).2.1
 have w3 : knR c l = knS (kC c l) m.length := by rw [zum w2, w1, wU hmm]
 have w4 : clR c l = [] := if_neg (fun e => hN e.2)
 have w5 : clE c l = 5 := by unfold clE; rw [if_pos hA, if_neg hN]
 have w6 : (kC c l).length <= 1000000000 := by have := (zce c l).1; rw [w1] at this; omega
 have w7 : ∀ x ∈ kC c l, x.length <= 1000 := by have := (zce c l).2; rw [w1] at this; exact this
 have w8 : zw7 (kC c l) m = b := zFc q1 q2 q4 hmm wa
 have w9 : b = true -> ACall Tryz.prog G 69 [jD (knS (kC c l) m.length), zO m] (.v (.bool true)) := fun e => zE6 (G := G) (knS (kC c l) m.length) m (by omega) hmb (ztr _ _) (zED _ _) (zDO (zwC.1 (w8.trans e)))
 refine zS Tryz.func15 Y (by kernel_rfl) Y ?_
 refine zuy (zh (zE8 (jf Y (zY Y)) (zE8 (zn Y Y) (zo (zf (zuy (zuy (zh (zE8 (zZ Y Y wH (by exact zLb Y)) (zE8 (zy (av := [_]) Y ⟨Y, trivial⟩ (zoc c hs)) (zE8 (je Y Y) ?_)))))))))))
 refine zE8 (zi Y Y) (zE9 Y (fun hg => zq Y Y) (zE9 Y (fun hg => zy (av := [_]) Y ⟨(Y), trivial⟩ (zzH l hf)) (zE9 Y (fun hg => je Y (Y)) (zE8 (qU Y Y Y Y) (zE8 (zi Y Y) (zE9 Y (fun hg => zq Y Y) (zE9 Y (fun hg => zuB Y Y Tryz.underlying23) ?_)))))))
 refine zE9 Y (fun hg => zuW (y := false) (by simp; omega) (qR Y Y Y)) ?_
 refine zE8 (qU Y Y Y Y) (zE8 (zi Y Y) (zE9 Y (fun hg => zZ Y Y wH (by exact zLb Y)) (zE9 Y (fun hg => zq Y Y) (zE9 Y (fun hg => zy (av := [_, _]) Y ⟨(Y), (Y), trivial⟩ (f26 c l zc zl.1 zl.2)) ?_))))
 refine zE9 Y (fun hg => zuW (y := false) (by simp [hA]) (vg Y Y Y)) ?_
 refine zE8 (qU Y Y Y Y) (zE8 (zi Y Y) (zE9 Y (fun hg => zZ Y Y wH (by exact zLb Y)) (zE9 Y (fun hg => zq Y Y) (zE9 Y (fun hg => zy (av := [_, _]) Y ⟨(Y), (Y), trivial⟩ (zCJ c m (by omega) hmm)) (zE9 Y (fun hg => je Y (Y)) (zE8 (qU Y Y Y Y) (zo (zf (zx Y (fun h_0 => ?_) (fun h_0 => ?_))))))))))
 ·
  exact absurd (show false = true from h_0) (by decide)
 ·
  refine zC (zf (zuy (zh (zE8 (zZ Y Y wH (by exact zLb Y)) (zE8 (zq Y Y) (zE8 (zy (av := [_, _]) Y ⟨Y, Y, trivial⟩ (zEb zc zl.1 zl.2 w1 w2)) (zE8 (zq Y Y) (zE8 (zN Y Y Y) (zE8 (zN Y Y Y) (zE8 (zW Y Y) (zE8 (zn Y Y) ?_)))))))))))
  refine zo (zf (zuy (zh (zE8 (zZ Y Y wH (by exact zLb Y)) (zE8 (zq Y Y) (zE8 (zy (av := [_, _]) Y ⟨Y, Y, trivial⟩ (zDK zc zl.1 zl.2 w3 w2)) (zE8 (zq Y Y) (zE8 (zN Y Y Y) (zE8 (zN Y Y Y) (zE8 (zW Y Y) (zE8 (zn Y Y) ?_)))))))))))
  refine zo (zf (zuy (zh (zE8 (zZ Y Y wH (by exact zLb Y)) (zE8 (zq Y Y) (zE8 (zy (av := [_, _]) Y ⟨Y, Y, trivial⟩ (zEy zc zl.1 zl.2 w4 w5)) (zE8 (zq Y Y) (zE8 (zN Y Y Y) (zE8 (zN Y Y Y) (zE8 (zW Y Y) (zE8 (zn Y Y) ?_)))))))))))
  refine zo (zf (zuy (zuy (zh (zE8 (zi Y Y) (zE8 (vg Y Y Y) (zE8 (zi Y Y) (zE9 Y (fun hg => zi Y Y) ?_))))))))
  refine zk (x := .pub (.tup [])) Y Y Y (fun hg => absurd hg (by decide)) ?_
  refine zE8 (zU Y Y (fun h => absurd h (by decide)) (fun _ => rfl)) ?_
  refine zE8 (zi Y Y) (zE9 Y (fun hg => zi Y Y) (zE9 Y (fun hg => zi Y Y) (zE9 Y (fun hg => vg Y (Y) (Y)) (zE8 (qU Y Y Y Y) (zE8 (zi Y Y) (zE9 Y (fun hg => zi Y Y) (zE9 Y (fun hg => qJ Y (Y) Y) (zE9 Y (fun hg => zi Y Y) (zE9 Y (fun hg => qJ Y (Y) Y) (zE9 Y (fun hg => zwJ Y (Y) (Y) Tryz.underlying4) (zE8 (qU Y Y Y Y) ?_)))))))))))
  refine zE8 (zi Y Y) (zE9 Y (fun hg => zi Y Y) (zE9 Y (fun hg => vg Y (Y) Y) (zE9 Y (fun hg => zi Y (Y)) (zE9 Y (fun hg => zi Y Y) (zE9 Y (fun hg => vg Y Y Y) (zE9 Y (fun hg => qI Y Y Y Y) (zE8 (qU Y Y Y Y) (zo (zf (zx Y (fun h_1 => ?_) (fun h_1 => ?_)))))))))))
  ·
   exact absurd (show false = true from h_1) (by decide)
  ·
   refine zC (zf (zuy (zh (zE8 (zn Y Y) (zo (zf (zuy (zuy (zh (zE8 (zn Y Y) (zo ?_)))))))))))
   refine zf (zB ?_)
   refine qy (ι := { i : Nat // i <= l.length }) (fun i => ⟨Tryz.f15.ntmps, frL [(1, .pub (qO l)), (2, .pub (zO m)), (3, .pub (.ptr (qK c))), (7, .pub (jc (kC c l))), (9, .pub (jD (knS (kC c l) m.length))), (13, B ((l.take i.1).all (zmV c m))), (14, I (i.1 : Int))], []⟩) (fun i => l.length - i.1) (⟨0, Nat.zero_le _⟩) ?_ ?_
   ·
    exact zt _ ⟨Y, Y, Y, Y, Y, Y, Y, trivial⟩ (Y)
   ·
    rintro ⟨i, hi⟩
    dsimp only
    refine zuy (zuy (zh (zE8 (zi Y Y) (zE8 (zq Y Y) (zE8 (zuB Y Y Tryz.underlying26) (zE8 (qi Y Y Y) (zo (zf (zx Y (fun h_2 => ?_) (fun h_2 => ?_))))))))))
    ·
     have hil : i < l.length := by simp only [decide_eq_true_eq] at h_2; omega
     refine zC (zf (zuy (zB (zuy ?_))))
     refine qY mixed (by kernel_rfl) Y ?_
     refine zH Y (zZ Y Y wH (by exact zLb Y)) (zH Y (zq Y Y) (zH Y (zq Y Y) (zH Y (zi Y Y) ?_)))
     refine zH Y (zG Y Y Y zbo (by omega) (zxE (k := i) hil) (by simp)) ?_
     refine zH Y (zA Y Y Y zfC) (zH Y (zy (av := [_, _, _]) Y ⟨Y, Y, Y, trivial⟩ (zyr c m (l.getD i []) zc (by omega) (zl.2 _ (get_mem hil)) q1 hmm (q4 _ (get_mem hil)))) (zH Y (zq Y Y) (zH Y (zN Y Y Y) (zH Y (zN Y Y Y) (zH Y (zn Y Y) (zH Y (zn Y Y) (jw (zf (zuy (zuy (zh ?_)))))))))))
     refine zE8 (zi Y Y) (zE8 (vg Y Y Y) (zo (zf (zx Y (fun h_3 => ?_) (fun h_3 => ?_)))))
     ·
      exact absurd (show false = true from h_3) (by decide)
     ·
      refine zC (zf (zh (zE8 (zi Y Y) (zE8 (zi Y Y) (zE9 Y (fun hg => zi Y Y) (zE8 (qI Y Y Y Y) (zE8 (zn Y Y) (zo (zD (zf (zh ?_)))))))))))
      refine zE8 (zi Y Y) (zE8 (zV Y Y Y ⟨(by omega), (by omega)⟩) (zE8 (zn Y Y) (zo ?_)))
      exact ⟨⟨i + 1, by omega⟩, by dsimp only; omega, zt _ ⟨Y, Y, Y, Y, Y, (congrArg B (zxI hil).symm), Y, trivial⟩ (Y)⟩
    ·
     have hil : i = l.length := by simp only [decide_eq_false_iff_not] at h_2; omega
     have hal : (l.take i).all (zmV c m) = b := by rw [hil, List.take_length]; exact wa
     refine qp (zL (zL (qw (zf (zuy (zuy ?_))))))
     refine qx (zt (mem' := []) [(1, .pub (qO l)), (2, .pub (zO m)), (3, .pub (.ptr (qK c))), (7, .pub (jc (kC c l))), (9, .pub (jD (knS (kC c l) m.length))), (13, B b)] ⟨Y, Y, Y, Y, Y, (congrArg B hal), trivial⟩ Y) ?_
     refine zh (zE8 (zi Y Y) (zE8 (zq Y Y) (zE8 (zq Y Y) (zE8 (zy (av := [_, _]) Y ⟨Y, Y, trivial⟩ (zD1 w6 w7 w8)) (zE8 (zuW (y := false) (zFf b) (zwJ Y Y Y Tryz.underlying4)) (zE8 (zi Y Y) (zE9 Y (fun hg => zi Y Y) (zE9 Y (fun hg => zi Y (Y)) (zE9 Y (fun hg => zq Y Y) (zE9 Y (fun hg => zq Y Y) (zE9 Y (fun hg => zy (av := [_, _]) Y ⟨(ifp hg), (ifp hg), trivial⟩ (w9 hg)) ?_)))))))))))
     refine zE9 Y (fun hg => je Y (ifp hg)) (zE9 Y (fun hg => zuW (y := false) (zFe b) (qI Y Y Y Y)) (zE8 (qU Y Y Y Y) (zo (zf (zx Y (fun h_4 => ?_) (fun h_4 => ?_))))))
     ·
      exact absurd (show false = true from h_4) (by decide)
     ·
      refine zC (zf (zuy (zh (zE8 (zZ Y Y wH (by exact zLb Y)) (zE8 (zq Y Y) ?_)))))
      refine zE8 (zy (av := [_, _]) Y ⟨Y, Y, trivial⟩ (zye c m zc (by omega) (by rw [q1, hmm]; rfl) hmb)) ?_
      refine zE8 (zq Y Y) (zE8 (zN Y Y Y) (zE8 (zN Y Y Y) (zE8 (zW Y Y) (zE8 (zn Y Y) (zo (zf (zuy (zuy (zh (zE8 (zi Y Y) (zE8 (vg Y Y Y) ?_)))))))))))
      refine zE8 (zi Y Y) (zE9 Y (fun hg => zZ Y Y wH (by exact zLb Y)) (zE9 Y (fun hg => zq Y Y) ?_))
      refine zE9 Y (fun hg => zy (av := [_, _]) Y ⟨(Y), (Y), trivial⟩ (zD4 c (jQ m) (by rw [zvj]; omega) zc.1 wc)) ?_
      refine zE9 Y (fun hg => je Y (Y)) (zE8 (qU Y Y Y Y) (zo (zf (zx Y (fun h_5 => ?_) (fun h_5 => ?_)))))
      ·
       exact absurd (show false = true from h_5) (by decide)
      ·
       refine zC (zf (zuy (zh (zE8 (zZ Y Y wH (by exact zLb Y)) (zE8 (zq Y Y) (zE8 (zq Y Y) ?_))))))
       refine zE8 (zy (av := [_, _, _]) Y ⟨Y, Y, Y, trivial⟩ (zD7 c m (jQ m) zc (by omega) (by rw [zvj]; omega) q1 hmm wc wo)) ?_
       refine zE8 (zq Y Y) (zE8 (zN Y Y Y) (zE8 (zN Y Y Y) (zE8 (zn Y Y) (zE8 (zn Y Y) (zo (zf (zuy (zh (zE8 (zi Y Y) (zE8 (qJ Y Y Y) (zE8 (zi Y Y) ?_)))))))))))
       refine zE9 Y (fun hg => zi Y Y) (zE8 (qI Y Y Y Y) (zE8 (zi Y Y) (zE9 Y (fun hg => zy (av := []) Y trivial hk) (zE8 (qI Y Y Y Y) (zE8 (zn Y Y) (zo (zf (zP ?_))))))))
       exact ⟨.inr Y, AVle.refl _⟩
theorem zER (hk : KN G) (c : Cod) (l : List (List (List UInt8))) (m : List Int) (hs : y7 c = true) (hf : zos l = true) (hm6 : m.length <= 6) (hA : yT c l = 0) (hmm : wS c m = true) (hN : kC c l = []) : ACall Tryz.prog G 15 [.agg (qK c), qO l, zO m] (.v (.bool true)) := by
 have zc := zav hs
 have zl := zb8 hf
 obtain ⟨q1, q2, q3, q4⟩ := zh6 hA
 have hmb := zlx q1 hmm
 have wc := zwt hmm
 have wo := zxA q1 hmm
 have w2 := zfe hA hN
 have w1 : xU c l = [] := zt2 hA hN
 have w3 : knR c l = [] := ztS (by rw [w2]; decide)
 have w4 : clR c l = clR c l := rfl
 have w5 : clE c l = 0 := by unfold clE; rw [if_pos hA, if_pos hN]
 have w6 : ([] : List (List Int)).length <= 1000000000 := by simp
 have w7 : ∀ x ∈ ([] : List (List Int)), x.length <= 1000 := by simp
 have w8 : zw7 [] m = false := rfl
 have wa : l.all (zmV c m) = false := Bool.eq_false_iff.2 (fun h => by have : m ∈ kC c l := (zc0 q1 q2 q4).2 ⟨hmm, List.all_eq_true.1 h⟩; rw [hN] at this; cases this)
 refine zS Tryz.func15 Y (by kernel_rfl) Y ?_
 refine zuy (zh (zE8 (jf Y (zY Y)) (zE8 (zn Y Y) (zo (zf (zuy (zuy (zh (zE8 (zZ Y Y wH (by exact zLb Y)) (zE8 (zy (av := [_]) Y ⟨Y, trivial⟩ (zoc c hs)) (zE8 (je Y Y) ?_)))))))))))
 refine zE8 (zi Y Y) (zE9 Y (fun hg => zq Y Y) (zE9 Y (fun hg => zy (av := [_]) Y ⟨(Y), trivial⟩ (zzH l hf)) (zE9 Y (fun hg => je Y (Y)) (zE8 (qU Y Y Y Y) (zE8 (zi Y Y) (zE9 Y (fun hg => zq Y Y) (zE9 Y (fun hg => zuB Y Y Tryz.underlying23) ?_)))))))
 refine zE9 Y (fun hg => zuW (y := false) (by simp; omega) (qR Y Y Y)) ?_
 refine zE8 (qU Y Y Y Y) (zE8 (zi Y Y) (zE9 Y (fun hg => zZ Y Y wH (by exact zLb Y)) (zE9 Y (fun hg => zq Y Y) (zE9 Y (fun hg => zy (av := [_, _]) Y ⟨(Y), (Y), trivial⟩ (f26 c l zc zl.1 zl.2)) ?_))))
 refine zE9 Y (fun hg => zuW (y := false) (by simp [hA]) (vg Y Y Y)) ?_
 refine zE8 (qU Y Y Y Y) (zE8 (zi Y Y) (zE9 Y (fun hg => zZ Y Y wH (by exact zLb Y)) (zE9 Y (fun hg => zq Y Y) (zE9 Y (fun hg => zy (av := [_, _]) Y ⟨(Y), (Y), trivial⟩ (zCJ c m (by omega) hmm)) (zE9 Y (fun hg => je Y (Y)) (zE8 (qU Y Y Y Y) (zo (zf (zx Y (fun h_0 => ?_) (fun h_0 => ?_))))))))))
 ·
  exact absurd (show false = true from h_0) (by decide)
 ·
  refine zC (zf (zuy (zh (zE8 (zZ Y Y wH (by exact zLb Y)) (zE8 (zq Y Y) (zE8 (zy (av := [_, _]) Y ⟨Y, Y, trivial⟩ (zEb zc zl.1 zl.2 w1 w2)) (zE8 (zq Y Y) (zE8 (zN Y Y Y) (zE8 (zN Y Y Y) (zE8 (zW Y Y) (zE8 (zn Y Y) ?_)))))))))))
  refine zo (zf (zuy (zh (zE8 (zZ Y Y wH (by exact zLb Y)) (zE8 (zq Y Y) (zE8 (zy (av := [_, _]) Y ⟨Y, Y, trivial⟩ (zDK zc zl.1 zl.2 w3 w2)) (zE8 (zq Y Y) (zE8 (zN Y Y Y) (zE8 (zN Y Y Y) (zE8 (zW Y Y) (zE8 (zn Y Y) ?_)))))))))))
  refine zo (zf (zuy (zh (zE8 (zZ Y Y wH (by exact zLb Y)) (zE8 (zq Y Y) (zE8 (zy (av := [_, _]) Y ⟨Y, Y, trivial⟩ (zEy zc zl.1 zl.2 w4 w5)) (zE8 (zq Y Y) (zE8 (zN Y Y Y) (zE8 (zN Y Y Y) (zE8 (zW Y Y) (zE8 (zn Y Y) ?_)))))))))))
  refine zo (zf (zuy (zuy (zh (zE8 (zi Y Y) (zE8 (vg Y Y Y) (zE8 (zi Y Y) (zE9 Y (fun hg => zi Y Y) (zE9 Y (fun hg => vg Y (Y) Y) (zE8 (qI Y Y Y Y) (zE8 (zi Y Y) ?_)))))))))))
  refine zE9 Y (fun hg => zi Y Y) (zE9 Y (fun hg => zi Y Y) (zE9 Y (fun hg => vg Y (Y) (Y)) (zE8 (qU Y Y Y Y) (zE8 (zi Y Y) (zE9 Y (fun hg => zi Y Y) (zE9 Y (fun hg => qJ Y (Y) Y) (zE9 Y (fun hg => zi Y Y) (zE9 Y (fun hg => qJ Y (Y) Y) (zE9 Y (fun hg => zwJ Y (Y) (Y) Tryz.underlying4) (zE8 (qU Y Y Y Y) (zE8 (zi Y Y) ?_)))))))))))
  refine zE9 Y (fun hg => zi Y Y) (zE9 Y (fun hg => vg Y (Y) Y) (zE9 Y (fun hg => zi Y (Y)) (zE9 Y (fun hg => zi Y Y) ?_)))
  refine zk (x := .pub (.tup [])) Y Y Y (fun hg => absurd hg (by decide)) ?_
  refine zE9 Y (fun hg => zU Y Y (fun h => absurd h (by decide)) (fun _ => rfl)) ?_
  refine zE8 (qU Y Y Y Y) (zo (zf (zx Y (fun h_1 => ?_) (fun h_1 => ?_))))
  ·
   exact absurd (show false = true from h_1) (by decide)
  ·
   refine zC (zf (zuy (zh (zE8 (zn Y Y) (zo (zf (zuy (zuy (zh (zE8 (zn Y Y) (zo ?_)))))))))))
   refine zf (zB ?_)
   refine qy (ι := { i : Nat // i <= l.length }) (fun i => ⟨Tryz.f15.ntmps, frL [(1, .pub (qO l)), (2, .pub (zO m)), (3, .pub (.ptr (qK c))), (7, .pub (jc [])), (9, .pub (jD [])), (13, B ((l.take i.1).all (zmV c m))), (14, I (i.1 : Int))], []⟩) (fun i => l.length - i.1) (⟨0, Nat.zero_le _⟩) ?_ ?_
   ·
    exact zt _ ⟨Y, Y, Y, Y, Y, Y, Y, trivial⟩ (Y)
   ·
    rintro ⟨i, hi⟩
    dsimp only
    refine zuy (zuy (zh (zE8 (zi Y Y) (zE8 (zq Y Y) (zE8 (zuB Y Y Tryz.underlying26) (zE8 (qi Y Y Y) (zo (zf (zx Y (fun h_2 => ?_) (fun h_2 => ?_))))))))))
    ·
     have hil : i < l.length := by simp only [decide_eq_true_eq] at h_2; omega
     refine zC (zf (zuy (zB (zuy ?_))))
     refine qY mixed (by kernel_rfl) Y ?_
     refine zH Y (zZ Y Y wH (by exact zLb Y)) (zH Y (zq Y Y) (zH Y (zq Y Y) (zH Y (zi Y Y) ?_)))
     refine zH Y (zG Y Y Y zbo (by omega) (zxE (k := i) hil) (by simp)) ?_
     refine zH Y (zA Y Y Y zfC) (zH Y (zy (av := [_, _, _]) Y ⟨Y, Y, Y, trivial⟩ (zyr c m (l.getD i []) zc (by omega) (zl.2 _ (get_mem hil)) q1 hmm (q4 _ (get_mem hil)))) (zH Y (zq Y Y) (zH Y (zN Y Y Y) (zH Y (zN Y Y Y) (zH Y (zn Y Y) (zH Y (zn Y Y) (jw (zf (zuy (zuy (zh ?_)))))))))))
     refine zE8 (zi Y Y) (zE8 (vg Y Y Y) (zo (zf (zx Y (fun h_3 => ?_) (fun h_3 => ?_)))))
     ·
      exact absurd (show false = true from h_3) (by decide)
     ·
      refine zC (zf (zh (zE8 (zi Y Y) (zE8 (zi Y Y) (zE9 Y (fun hg => zi Y Y) (zE8 (qI Y Y Y Y) (zE8 (zn Y Y) (zo (zD (zf (zh ?_)))))))))))
      refine zE8 (zi Y Y) (zE8 (zV Y Y Y ⟨(by omega), (by omega)⟩) (zE8 (zn Y Y) (zo ?_)))
      exact ⟨⟨i + 1, by omega⟩, by dsimp only; omega, zt _ ⟨Y, Y, Y, Y, Y, (congrArg B (zxI hil).symm), Y, trivial⟩ (Y)⟩
    ·
     have hil : i = l.length := by simp only [decide_eq_false_iff_not] at h_2; omega
     have hal : (l.take i).all (zmV c m) = false := by rw [hil, List.take_length]; exact wa
     refine qp (zL (zL (qw (zf (zuy (zuy ?_))))))
     refine qx (zt (mem' := []) [(1, .pub (qO l)), (2, .pub (zO m)), (3, .pub (.ptr (qK c))), (7, .pub (jc [])), (9, .pub (jD [])), (13, B false)] ⟨Y, Y, Y, Y, Y, (congrArg B hal), trivial⟩ Y) ?_
     refine zh (zE8 (zi Y Y) (zE8 (zq Y Y) (zE8 (zq Y Y) (zE8 (zy (av := [_, _]) Y ⟨Y, Y, trivial⟩ (zD1 w6 w7 w8)) (zE8 (zwJ Y Y Y Tryz.underlying4) (zE8 (zi Y Y) (zE9 Y (fun hg => zi Y Y) (zE9 Y (fun hg => zi Y (Y)) (zE9 Y (fun hg => zq Y Y) (zE9 Y (fun hg => zq Y Y) ?_))))))))))
     refine zk (x := .pub (.tup [])) Y Y Y (fun hg => absurd hg (by decide)) ?_
     refine zk (x := .pub (.tup [])) Y Y Y (fun hg => absurd hg (by decide)) ?_
     refine zE9 Y (fun hg => zU Y Y (fun h => absurd h (by decide)) (fun _ => rfl)) ?_
     refine zE8 (qU Y Y Y Y) (zo (zf (zx Y (fun h_4 => ?_) (fun h_4 => ?_))))
     ·
      exact absurd (show false = true from h_4) (by decide)
     ·
      refine zC (zf (zuy (zh (zE8 (zZ Y Y wH (by exact zLb Y)) (zE8 (zq Y Y) ?_)))))
      refine zE8 (zy (av := [_, _]) Y ⟨Y, Y, trivial⟩ (zye c m zc (by omega) (by rw [q1, hmm]; rfl) hmb)) ?_
      refine zE8 (zq Y Y) (zE8 (zN Y Y Y) (zE8 (zN Y Y Y) (zE8 (zW Y Y) (zE8 (zn Y Y) (zo (zf (zuy (zuy (zh (zE8 (zi Y Y) (zE8 (vg Y Y Y) ?_)))))))))))
      refine zE8 (zi Y Y) (zE9 Y (fun hg => zZ Y Y wH (by exact zLb Y)) (zE9 Y (fun hg => zq Y Y) ?_))
      refine zE9 Y (fun hg => zy (av := [_, _]) Y ⟨(Y), (Y), trivial⟩ (zD4 c (jQ m) (by rw [zvj]; omega) zc.1 wc)) ?_
      refine zE9 Y (fun hg => je Y (Y)) (zE8 (qU Y Y Y Y) (zo (zf (zx Y (fun h_5 => ?_) (fun h_5 => ?_)))))
      ·
       exact absurd (show false = true from h_5) (by decide)
      ·
       refine zC (zf (zuy (zh (zE8 (zZ Y Y wH (by exact zLb Y)) (zE8 (zq Y Y) (zE8 (zq Y Y) ?_))))))
       refine zE8 (zy (av := [_, _, _]) Y ⟨Y, Y, Y, trivial⟩ (zD7 c m (jQ m) zc (by omega) (by rw [zvj]; omega) q1 hmm wc wo)) ?_
       refine zE8 (zq Y Y) (zE8 (zN Y Y Y) (zE8 (zN Y Y Y) (zE8 (zn Y Y) (zE8 (zn Y Y) (zo (zf (zuy (zh (zE8 (zi Y Y) (zE8 (qJ Y Y Y) (zE8 (zi Y Y) ?_)))))))))))
       refine zE9 Y (fun hg => zi Y Y) (zE8 (qI Y Y Y Y) (zE8 (zi Y Y) (zE9 Y (fun hg => zy (av := []) Y trivial hk) (zE8 (qI Y Y Y Y) (zE8 (zn Y Y) (zo (zf (zP ?_))))))))
       exact ⟨.inr Y, AVle.refl _⟩
theorem f15 (hk : KN G) (c : Cod) (l : List (List (List UInt8))) (m : List Int) : ACall Tryz.prog G 15 [.agg (qK c), qO l, zO m] (.v (.bool true)) := by
 cases hs : y7 c with
 | false => exact zEp hk c l m hs
 | true =>
  cases hf : zos l with
  | false => exact zDN hk c l m hs hf
  | true =>
   by_cases hm6 : m.length <= 6
   ·
    by_cases hA : yT c l = 0
    ·
     cases hmm : wS c m with
     | false => exact zDZ hk c l m hs hf hm6 hA hmm
     | true =>
      by_cases hN : kC c l = []
      ·
       exact zER hk c l m hs hf hm6 hA hmm hN
      ·
       exact zEY hk c l m hs hf hm6 hA hmm hN _ Y
    ·
     exact zD5 hk c l m hs hf hm6 hA
   ·
    exact zEu hk c l m hs hf (by omega)
end Go.Av
end
