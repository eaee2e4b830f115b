
import Derived.Test.YtaphehlgijlfeaaGreatDoorWiP6
import Derived.Test.YtaphehlgijlfeaaGreatDoorWiJ
set_option linter.unusedVariables false
set_option linter.unusedSimpArgs false
section
namespace Go.Av
open Go.Proofs
set_option maxRecDepth 100000
set_option maxHeartbeats 1000000
variable {G : Glob}
theorem zAd (a b : LS) (ha : a.length <= 1000) {r : Bool} (h : decide (a = b) = r) : ACall Tryz.prog G 29 [jD a, jD b] (.v (.bool r)) := h ▸ f29 a b ha
theorem zxk (a b : List Int) (ha : a.length <= 100000) {r : Bool} (h : decide (a = b) = r) : ACall Tryz.prog G 39 [zO a, zO b] (.v (.bool r)) := h ▸ f39 a b ha
theorem zBW (c : Cod) (bk : List Ent) (ts : LS) (hc : c.fields.length <= 1000 /\ c.turns.length <= 1000) (hb : bk.length <= 1000) (hl : 8 < ts.length) : ACall Tryz.prog G 71 [.agg (qK c), eBk bk, jD ts] (.tup [zO [], ei 3]) := zzF c bk ts hc hb hl
theorem zBU (c : Cod) (bk : List Ent) (ts : LS) (hc : c.fields.length <= 1000 /\ c.turns.length <= 1000) (hb : bk.length <= 1000) (hl : ts.length <= 8) (hbad : (jA c && zuB bk) = false) : ACall Tryz.prog G 71 [.agg (qK c), eBk bk, jD ts] (.tup [zO [], ei 2]) := zAi c bk ts hc hb hl hbad
theorem zvK {bk : List Ent} {ms : List Int} (hl : ms.length <= 6) : (zu0 bk ms).length <= 7 := by
 have := zvA bk ms
 unfold zu0; simp; omega
theorem zAe (hkn : KN G) (c : Cod) (bk : List Ent) (ms : List Int) (ts : LS) (hw : ∀ e ∈ bk, e.word.length <= 9223372036854775807) {s1 s2 : Bool} (hs : y7 c = s1) (hb : zjc ts = s2) (ho : ¬ (s1 = true /\ bk.length <= 15 /\ ms.length <= 6 /\ s2 = true)) : ACall Tryz.prog G 16 [.agg (qK c), eBk bk, zO ms, jD ts] (.v (.bool true)) := by
 refine zS Tryz.func16 rfl (by kernel_rfl) rfl ?_
 refine zl (zh (zg rfl rfl (jf rfl (zY rfl)) ?_))
 first | refine zg rfl rfl (zn rfl rfl) ?_ | refine zg rfl rfl (zW rfl rfl) ?_ | refine zg rfl rfl (qo rfl rfl) ?_ | refine zg rfl rfl (qV rfl rfl) ?_
 refine zo (zf (zl (zl (zh ?_))))
 first | refine zg rfl rfl (zZ rfl rfl wH (by exact zLb rfl)) ?_ | refine zg rfl rfl (qN (cs := [_, _, _]) rfl rfl rfl rfl rfl (by exact zLb rfl) rfl wH) ?_ | refine zg rfl rfl (qf rfl rfl rfl rfl rfl (by exact zLb rfl) rfl wH) ?_
 refine zg rfl rfl (zy (av := [_]) rfl ⟨rfl, trivial⟩ (zoc c hs)) (zg rfl rfl (je rfl rfl) ?_)
 first | refine zg rfl rfl (zi rfl rfl) ?_ | refine zg rfl rfl (zq rfl rfl) ?_ | refine zg rfl rfl (zI rfl rfl) ?_ | refine zg rfl rfl (zM rfl rfl) ?_
 first | refine zk rfl rfl rfl (fun hg => zi rfl rfl) ?_ | refine zk rfl rfl rfl (fun hg => zq rfl rfl) ?_ | refine zk rfl rfl rfl (fun hg => zI rfl rfl) ?_ | refine zk rfl rfl rfl (fun hg => zM rfl rfl) ?_ | refine zk (x := .pub (.tup [])) rfl rfl rfl (fun hg => absurd hg (by decide)) ?_
 first | refine zk rfl rfl rfl (fun hg => zuz rfl (by first | exact rfl | exact if_pos hg) Tryz.underlying63) ?_ | refine zk rfl rfl rfl (fun hg => zuz rfl rfl Tryz.underlying63) ?_ | refine zk (x := .pub (.tup [])) rfl rfl rfl (fun hg => absurd hg (by decide)) ?_
 first | refine zk rfl rfl rfl (fun hg => qR rfl (by first | exact rfl | exact if_pos hg) rfl) ?_ | refine zk rfl rfl rfl (fun hg => qR rfl rfl rfl) ?_ | refine zk (x := .pub (.tup [])) rfl rfl rfl (fun hg => absurd hg (by decide)) ?_
 first | refine zg rfl rfl (qI rfl rfl rfl rfl) ?_ | refine zg rfl rfl (qU rfl rfl rfl rfl) ?_ | refine zg rfl rfl (zU rfl rfl (fun _ => rfl) (fun _ => rfl)) ?_ | refine zg rfl rfl (zU rfl rfl (fun _ => rfl) (fun h => absurd h (by decide))) ?_ | refine zg rfl rfl (zU rfl rfl (fun h => absurd h (by decide)) (fun _ => rfl)) ?_
 first | refine zg rfl rfl (zi rfl rfl) ?_ | refine zg rfl rfl (zq rfl rfl) ?_ | refine zg rfl rfl (zI rfl rfl) ?_ | refine zg rfl rfl (zM rfl rfl) ?_
 first | refine zk rfl rfl rfl (fun hg => zi rfl rfl) ?_ | refine zk rfl rfl rfl (fun hg => zq rfl rfl) ?_ | refine zk rfl rfl rfl (fun hg => zI rfl rfl) ?_ | refine zk rfl rfl rfl (fun hg => zM rfl rfl) ?_ | refine zk (x := .pub (.tup [])) rfl rfl rfl (fun hg => absurd hg (by decide)) ?_
 first | refine zk rfl rfl rfl (fun hg => zuz rfl (by first | exact rfl | exact if_pos hg) Tryz.underlying23) ?_ | refine zk rfl rfl rfl (fun hg => zuz rfl rfl Tryz.underlying23) ?_ | refine zk (x := .pub (.tup [])) rfl rfl rfl (fun hg => absurd hg (by decide)) ?_
 first | refine zk rfl rfl rfl (fun hg => qR rfl (by first | exact rfl | exact if_pos hg) rfl) ?_ | refine zk rfl rfl rfl (fun hg => qR rfl rfl rfl) ?_ | refine zk (x := .pub (.tup [])) rfl rfl rfl (fun hg => absurd hg (by decide)) ?_
 first | refine zg rfl rfl (qI rfl rfl rfl rfl) ?_ | refine zg rfl rfl (qU rfl rfl rfl rfl) ?_ | refine zg rfl rfl (zU rfl rfl (fun _ => rfl) (fun _ => rfl)) ?_ | refine zg rfl rfl (zU rfl rfl (fun _ => rfl) (fun h => absurd h (by decide))) ?_ | refine zg rfl rfl (zU rfl rfl (fun h => absurd h (by decide)) (fun _ => rfl)) ?_
 first | refine zg rfl rfl (zi rfl rfl) ?_ | refine zg rfl rfl (zq rfl rfl) ?_ | refine zg rfl rfl (zI rfl rfl) ?_ | refine zg rfl rfl (zM rfl rfl) ?_
 first | refine zk rfl rfl rfl (fun hg => zi rfl rfl) ?_ | refine zk rfl rfl rfl (fun hg => zq rfl rfl) ?_ | refine zk rfl rfl rfl (fun hg => zI rfl rfl) ?_ | refine zk rfl rfl rfl (fun hg => zM rfl rfl) ?_ | refine zk (x := .pub (.tup [])) rfl rfl rfl (fun hg => absurd hg (by decide)) ?_
 first | refine zk rfl rfl rfl (fun hg => zy (av := [_]) rfl ⟨(by first | exact (if_pos hg) | exact rfl), trivial⟩ (zxv ts hb)) ?_ | refine zk rfl rfl rfl (fun hg => zy (av := [_]) rfl ⟨(by first | exact rfl | exact rfl), trivial⟩ (zxv ts hb)) ?_ | refine zk (x := .pub (.tup [])) rfl rfl rfl (fun hg => absurd hg (by decide)) ?_
 first | refine zk rfl rfl rfl (fun hg => je rfl (by first | exact rfl | exact if_pos hg)) ?_ | refine zk rfl rfl rfl (fun hg => je rfl rfl) ?_ | refine zk (x := .pub (.tup [])) rfl rfl rfl (fun hg => absurd hg (by decide)) ?_
 first | refine zg rfl rfl (qI rfl rfl rfl rfl) ?_ | refine zg rfl rfl (qU rfl rfl rfl rfl) ?_ | refine zg rfl rfl (zU rfl rfl (fun _ => rfl) (fun _ => rfl)) ?_ | refine zg rfl rfl (zU rfl rfl (fun _ => rfl) (fun h => absurd h (by decide))) ?_ | refine zg rfl rfl (zU rfl rfl (fun h => absurd h (by decide)) (fun _ => rfl)) ?_
 refine zo (zf (zx rfl (fun h0 => ?_) (fun h0 => ?_)))
 ·
  refine zl (zh (zg rfl rfl (zy (av := []) rfl trivial hkn) ?_))
  first | refine zg rfl rfl (zn rfl rfl) ?_ | refine zg rfl rfl (zW rfl rfl) ?_ | refine zg rfl rfl (qo rfl rfl) ?_ | refine zg rfl rfl (qV rfl rfl) ?_
  refine zo (zf (zP (zQ ?_)))
  exact ⟨.inr rfl, AVle.refl _⟩
 ·
  exfalso; cases s1 <;> cases s2 <;> simp at h0 ho <;> omega
theorem zzE (hkn : KN G) (c : Cod) (bk : List Ent) (ms : List Int) (ts : LS) (hw : ∀ e ∈ bk, e.word.length <= 9223372036854775807) (hs : y7 c = true) (hb15 : bk.length <= 15) (hm6 : ms.length <= 6) (hb : zjc ts = true) {o g : Bool} (hg1 : (jA c && zuB bk) = g) (ho : (g && wS c ms) = o) {P : LS} {e : Int} (hP : P = if o = true then zu0 bk ms else []) (he : e = if o = true then 0 else 2) (c70 : ACall Tryz.prog G 70 [.agg (qK c), eBk bk, zO ms] (.tup [jD P, ei e])) (hl : 8 < ts.length) : ACall Tryz.prog G 16 [.agg (qK c), eBk bk, zO ms, jD ts] (.v (.bool true)) := by
 have hcs := zvI hs
 have htl := zwh hb
 refine zS Tryz.func16 rfl (by kernel_rfl) rfl ?_
 refine zl (zh (zg rfl rfl (jf rfl (zY rfl)) ?_))
 first | refine zg rfl rfl (zn rfl rfl) ?_ | refine zg rfl rfl (zW rfl rfl) ?_ | refine zg rfl rfl (qo rfl rfl) ?_ | refine zg rfl rfl (qV rfl rfl) ?_
 refine zo (zf (zl (zl (zh ?_))))
 first | refine zg rfl rfl (zZ rfl rfl wH (by exact zLb rfl)) ?_ | refine zg rfl rfl (qN (cs := [_, _, _]) rfl rfl rfl rfl rfl (by exact zLb rfl) rfl wH) ?_ | refine zg rfl rfl (qf rfl rfl rfl rfl rfl (by exact zLb rfl) rfl wH) ?_
 refine zg rfl rfl (zy (av := [_]) rfl ⟨rfl, trivial⟩ (zoc c hs)) (zg rfl rfl (je rfl rfl) ?_)
 first | refine zg rfl rfl (zi rfl rfl) ?_ | refine zg rfl rfl (zq rfl rfl) ?_ | refine zg rfl rfl (zI rfl rfl) ?_ | refine zg rfl rfl (zM rfl rfl) ?_
 first | refine zk rfl rfl rfl (fun hg => zi rfl rfl) ?_ | refine zk rfl rfl rfl (fun hg => zq rfl rfl) ?_ | refine zk rfl rfl rfl (fun hg => zI rfl rfl) ?_ | refine zk rfl rfl rfl (fun hg => zM rfl rfl) ?_ | refine zk (x := .pub (.tup [])) rfl rfl rfl (fun hg => absurd hg (by decide)) ?_
 first | refine zk rfl rfl rfl (fun hg => zuz rfl (by first | exact rfl | exact if_pos hg) Tryz.underlying63) ?_ | refine zk rfl rfl rfl (fun hg => zuz rfl rfl Tryz.underlying63) ?_ | refine zk (x := .pub (.tup [])) rfl rfl rfl (fun hg => absurd hg (by decide)) ?_
 first | refine zk rfl rfl rfl (fun hg => qR rfl (by first | exact rfl | exact if_pos hg) rfl) ?_ | refine zk rfl rfl rfl (fun hg => qR rfl rfl rfl) ?_ | refine zk (x := .pub (.tup [])) rfl rfl rfl (fun hg => absurd hg (by decide)) ?_
 first | refine zg rfl rfl (qI rfl rfl rfl rfl) ?_ | refine zg rfl rfl (qU rfl rfl rfl rfl) ?_ | refine zg rfl rfl (zU rfl rfl (fun _ => rfl) (fun _ => rfl)) ?_ | refine zg rfl rfl (zU rfl rfl (fun _ => rfl) (fun h => absurd h (by decide))) ?_ | refine zg rfl rfl (zU rfl rfl (fun h => absurd h (by decide)) (fun _ => rfl)) ?_
 first | refine zg rfl rfl (zi rfl rfl) ?_ | refine zg rfl rfl (zq rfl rfl) ?_ | refine zg rfl rfl (zI rfl rfl) ?_ | refine zg rfl rfl (zM rfl rfl) ?_
 first | refine zk rfl rfl rfl (fun hg => zi rfl rfl) ?_ | refine zk rfl rfl rfl (fun hg => zq rfl rfl) ?_ | refine zk rfl rfl rfl (fun hg => zI rfl rfl) ?_ | refine zk rfl rfl rfl (fun hg => zM rfl rfl) ?_ | refine zk (x := .pub (.tup [])) rfl rfl rfl (fun hg => absurd hg (by decide)) ?_
 first | refine zk rfl rfl rfl (fun hg => zuz rfl (by first | exact rfl | exact if_pos hg) Tryz.underlying23) ?_ | refine zk rfl rfl rfl (fun hg => zuz rfl rfl Tryz.underlying23) ?_ | refine zk (x := .pub (.tup [])) rfl rfl rfl (fun hg => absurd hg (by decide)) ?_
 first | refine zk rfl rfl rfl (fun hg => qR rfl (by first | exact rfl | exact if_pos hg) rfl) ?_ | refine zk rfl rfl rfl (fun hg => qR rfl rfl rfl) ?_ | refine zk (x := .pub (.tup [])) rfl rfl rfl (fun hg => absurd hg (by decide)) ?_
 first | refine zg rfl rfl (qI rfl rfl rfl rfl) ?_ | refine zg rfl rfl (qU rfl rfl rfl rfl) ?_ | refine zg rfl rfl (zU rfl rfl (fun _ => rfl) (fun _ => rfl)) ?_ | refine zg rfl rfl (zU rfl rfl (fun _ => rfl) (fun h => absurd h (by decide))) ?_ | refine zg rfl rfl (zU rfl rfl (fun h => absurd h (by decide)) (fun _ => rfl)) ?_
 first | refine zg rfl rfl (zi rfl rfl) ?_ | refine zg rfl rfl (zq rfl rfl) ?_ | refine zg rfl rfl (zI rfl rfl) ?_ | refine zg rfl rfl (zM rfl rfl) ?_
 first | refine zk rfl rfl rfl (fun hg => zi rfl rfl) ?_ | refine zk rfl rfl rfl (fun hg => zq rfl rfl) ?_ | refine zk rfl rfl rfl (fun hg => zI rfl rfl) ?_ | refine zk rfl rfl rfl (fun hg => zM rfl rfl) ?_ | refine zk (x := .pub (.tup [])) rfl rfl rfl (fun hg => absurd hg (by decide)) ?_
 first | refine zk rfl rfl rfl (fun hg => zy (av := [_]) rfl ⟨(by first | exact (if_pos hg) | exact rfl), trivial⟩ (zxv ts hb)) ?_ | refine zk rfl rfl rfl (fun hg => zy (av := [_]) rfl ⟨(by first | exact rfl | exact rfl), trivial⟩ (zxv ts hb)) ?_ | refine zk (x := .pub (.tup [])) rfl rfl rfl (fun hg => absurd hg (by decide)) ?_
 first | refine zk rfl rfl rfl (fun hg => je rfl (by first | exact rfl | exact if_pos hg)) ?_ | refine zk rfl rfl rfl (fun hg => je rfl rfl) ?_ | refine zk (x := .pub (.tup [])) rfl rfl rfl (fun hg => absurd hg (by decide)) ?_
 first | refine zg rfl rfl (qI rfl rfl rfl rfl) ?_ | refine zg rfl rfl (qU rfl rfl rfl rfl) ?_ | refine zg rfl rfl (zU rfl rfl (fun _ => rfl) (fun _ => rfl)) ?_ | refine zg rfl rfl (zU rfl rfl (fun _ => rfl) (fun h => absurd h (by decide))) ?_ | refine zg rfl rfl (zU rfl rfl (fun h => absurd h (by decide)) (fun _ => rfl)) ?_
 refine zo (zf (zx rfl (fun h0 => ?_) (fun h0 => ?_)))
 ·
  exfalso; simp [eBk, zO] at h0; omega
 ·
  refine zC (zf (zl (zh ?_)))
  first | refine zg rfl rfl (zZ rfl rfl wH (by exact zLb rfl)) ?_ | refine zg rfl rfl (qN (cs := [_, _, _]) rfl rfl rfl rfl rfl (by exact zLb rfl) rfl wH) ?_ | refine zg rfl rfl (qf rfl rfl rfl rfl rfl (by exact zLb rfl) rfl wH) ?_
  first | refine zg rfl rfl (zi rfl rfl) ?_ | refine zg rfl rfl (zq rfl rfl) ?_ | refine zg rfl rfl (zI rfl rfl) ?_ | refine zg rfl rfl (zM rfl rfl) ?_
  first | refine zg rfl rfl (zi rfl rfl) ?_ | refine zg rfl rfl (zq rfl rfl) ?_ | refine zg rfl rfl (zI rfl rfl) ?_ | refine zg rfl rfl (zM rfl rfl) ?_
  refine zg rfl rfl (zy (av := [_, _, _]) rfl ⟨rfl, rfl, rfl, trivial⟩ c70) ?_
  first | refine zg rfl rfl (zi rfl rfl) ?_ | refine zg rfl rfl (zq rfl rfl) ?_ | refine zg rfl rfl (zI rfl rfl) ?_ | refine zg rfl rfl (zM rfl rfl) ?_
  refine zg rfl rfl (zN rfl rfl rfl) (zg rfl rfl (zN rfl rfl rfl) ?_)
  first | refine zg rfl rfl (zn rfl rfl) ?_ | refine zg rfl rfl (zW rfl rfl) ?_ | refine zg rfl rfl (qo rfl rfl) ?_ | refine zg rfl rfl (qV rfl rfl) ?_
  first | refine zg rfl rfl (zn rfl rfl) ?_ | refine zg rfl rfl (zW rfl rfl) ?_ | refine zg rfl rfl (qo rfl rfl) ?_ | refine zg rfl rfl (qV rfl rfl) ?_
  refine zo (zf (zl (zh ?_)))
  first | refine zg rfl rfl (zZ rfl rfl wH (by exact zLb rfl)) ?_ | refine zg rfl rfl (qN (cs := [_, _, _]) rfl rfl rfl rfl rfl (by exact zLb rfl) rfl wH) ?_ | refine zg rfl rfl (qf rfl rfl rfl rfl rfl (by exact zLb rfl) rfl wH) ?_
  first | refine zg rfl rfl (zi rfl rfl) ?_ | refine zg rfl rfl (zq rfl rfl) ?_ | refine zg rfl rfl (zI rfl rfl) ?_ | refine zg rfl rfl (zM rfl rfl) ?_
  first | refine zg rfl rfl (zi rfl rfl) ?_ | refine zg rfl rfl (zq rfl rfl) ?_ | refine zg rfl rfl (zI rfl rfl) ?_ | refine zg rfl rfl (zM rfl rfl) ?_
  refine zg rfl rfl (zy (av := [_, _, _]) rfl ⟨rfl, rfl, rfl, trivial⟩ (zBW c bk ts hcs (by omega) hl)) ?_
  first | refine zg rfl rfl (zi rfl rfl) ?_ | refine zg rfl rfl (zq rfl rfl) ?_ | refine zg rfl rfl (zI rfl rfl) ?_ | refine zg rfl rfl (zM rfl rfl) ?_
  refine zg rfl rfl (zN rfl rfl rfl) (zg rfl rfl (zN rfl rfl rfl) ?_)
  first | refine zg rfl rfl (zn rfl rfl) ?_ | refine zg rfl rfl (zW rfl rfl) ?_ | refine zg rfl rfl (qo rfl rfl) ?_ | refine zg rfl rfl (qV rfl rfl) ?_
  first | refine zg rfl rfl (zn rfl rfl) ?_ | refine zg rfl rfl (zW rfl rfl) ?_ | refine zg rfl rfl (qo rfl rfl) ?_ | refine zg rfl rfl (qV rfl rfl) ?_
  refine zo (zf (zl (zh ?_)))
  first | refine zg rfl rfl (zZ rfl rfl wH (by exact zLb rfl)) ?_ | refine zg rfl rfl (qN (cs := [_, _, _]) rfl rfl rfl rfl rfl (by exact zLb rfl) rfl wH) ?_ | refine zg rfl rfl (qf rfl rfl rfl rfl rfl (by exact zLb rfl) rfl wH) ?_
  refine zg rfl rfl (zy (av := [_]) rfl ⟨rfl, trivial⟩ (f31 c hcs)) ?_
  first | refine zg rfl rfl (zi rfl rfl) ?_ | refine zg rfl rfl (zq rfl rfl) ?_ | refine zg rfl rfl (zI rfl rfl) ?_ | refine zg rfl rfl (zM rfl rfl) ?_
  first | refine zk rfl rfl rfl (fun hg => zi rfl rfl) ?_ | refine zk rfl rfl rfl (fun hg => zq rfl rfl) ?_ | refine zk rfl rfl rfl (fun hg => zI rfl rfl) ?_ | refine zk rfl rfl rfl (fun hg => zM rfl rfl) ?_ | refine zk (x := .pub (.tup [])) rfl rfl rfl (fun hg => absurd hg (by decide)) ?_
  first | refine zk rfl rfl rfl (fun hg => zy (av := [_]) rfl ⟨(by first | exact (if_pos hg) | exact rfl), trivial⟩ (f47 bk (by omega) hw)) ?_ | refine zk rfl rfl rfl (fun hg => zy (av := [_]) rfl ⟨(by first | exact rfl | exact rfl), trivial⟩ (f47 bk (by omega) hw)) ?_ | refine zk (x := .pub (.tup [])) rfl rfl rfl (fun hg => absurd hg (by decide)) ?_
  first | refine zg rfl rfl (qI rfl rfl rfl rfl) ?_ | refine zg rfl rfl (qU rfl rfl rfl rfl) ?_ | refine zg rfl rfl (zU rfl rfl (fun _ => rfl) (fun _ => rfl)) ?_ | refine zg rfl rfl (zU rfl rfl (fun _ => rfl) (fun h => absurd h (by decide))) ?_ | refine zg rfl rfl (zU rfl rfl (fun h => absurd h (by decide)) (fun _ => rfl)) ?_
  first | refine zg rfl rfl (zn rfl rfl) ?_ | refine zg rfl rfl (zW rfl rfl) ?_ | refine zg rfl rfl (qo rfl rfl) ?_ | refine zg rfl rfl (qV rfl rfl) ?_
  refine zo (zf (zl (zl (zh ?_))))
  first | refine zg rfl rfl (zi rfl rfl) ?_ | refine zg rfl rfl (zq rfl rfl) ?_ | refine zg rfl rfl (zI rfl rfl) ?_ | refine zg rfl rfl (zM rfl rfl) ?_
  refine zg rfl rfl (je rfl rfl) ?_
  first | refine zg rfl rfl (zi rfl rfl) ?_ | refine zg rfl rfl (zq rfl rfl) ?_ | refine zg rfl rfl (zI rfl rfl) ?_ | refine zg rfl rfl (zM rfl rfl) ?_
  first | refine zk rfl rfl rfl (fun hg => zZ rfl rfl wH (by exact zLb rfl)) ?_ | refine zk rfl rfl rfl (fun hg => qN (cs := [_, _, _]) rfl rfl rfl rfl rfl (by exact zLb rfl) rfl wH) ?_ | refine zk rfl rfl rfl (fun hg => qf rfl rfl rfl rfl rfl (by exact zLb rfl) rfl wH) ?_ | refine zk (x := .pub (.tup [])) rfl rfl rfl (fun hg => absurd hg (by decide)) ?_
  first | refine zk rfl rfl rfl (fun hg => zi rfl rfl) ?_ | refine zk rfl rfl rfl (fun hg => zq rfl rfl) ?_ | refine zk rfl rfl rfl (fun hg => zI rfl rfl) ?_ | refine zk rfl rfl rfl (fun hg => zM rfl rfl) ?_ | refine zk (x := .pub (.tup [])) rfl rfl rfl (fun hg => absurd hg (by decide)) ?_
  first | refine zk rfl rfl rfl (fun hg => zy (av := [_, _]) rfl ⟨(by first | exact (if_pos hg) | exact rfl), (by first | exact (if_pos hg) | exact rfl), trivial⟩ (f32 c ms (by omega))) ?_ | refine zk rfl rfl rfl (fun hg => zy (av := [_, _]) rfl ⟨(by first | exact rfl | exact rfl), (by first | exact rfl | exact rfl), trivial⟩ (f32 c ms (by omega))) ?_ | refine zk (x := .pub (.tup [])) rfl rfl rfl (fun hg => absurd hg (by decide)) ?_
  first | refine zk rfl rfl rfl (fun hg => je rfl (by first | exact rfl | exact if_pos hg)) ?_ | refine zk rfl rfl rfl (fun hg => je rfl rfl) ?_ | refine zk (x := .pub (.tup [])) rfl rfl rfl (fun hg => absurd hg (by decide)) ?_
  first | refine zg rfl rfl (qI rfl rfl rfl rfl) ?_ | refine zg rfl rfl (qU rfl rfl rfl rfl) ?_ | refine zg rfl rfl (zU rfl rfl (fun _ => rfl) (fun _ => rfl)) ?_ | refine zg rfl rfl (zU rfl rfl (fun _ => rfl) (fun h => absurd h (by decide))) ?_ | refine zg rfl rfl (zU rfl rfl (fun h => absurd h (by decide)) (fun _ => rfl)) ?_
  refine zo (zf (zx rfl (fun h1 => ?_) (fun h1 => ?_)))
  ·
   have ho2 : o = false := by cases hcb : jA c <;> cases hbb : zuB bk <;> cases hmm : wS c ms <;> simp_all
   rw [ho2] at hP he
   simp only [Bool.false_eq_true, if_false] at hP he
   subst hP
   subst he
   refine zl (zh ?_)
   first | refine zg rfl rfl (zi rfl rfl) ?_ | refine zg rfl rfl (zq rfl rfl) ?_ | refine zg rfl rfl (zI rfl rfl) ?_ | refine zg rfl rfl (zM rfl rfl) ?_
   refine zg rfl rfl (vg rfl rfl rfl) ?_
   first | refine zg rfl rfl (zi rfl rfl) ?_ | refine zg rfl rfl (zq rfl rfl) ?_ | refine zg rfl rfl (zI rfl rfl) ?_ | refine zg rfl rfl (zM rfl rfl) ?_
   first | refine zk rfl rfl rfl (fun hg => zi rfl rfl) ?_ | refine zk rfl rfl rfl (fun hg => zq rfl rfl) ?_ | refine zk rfl rfl rfl (fun hg => zI rfl rfl) ?_ | refine zk rfl rfl rfl (fun hg => zM rfl rfl) ?_ | refine zk (x := .pub (.tup [])) rfl rfl rfl (fun hg => absurd hg (by decide)) ?_
   first | refine zk rfl rfl rfl (fun hg => zuz rfl (by first | exact rfl | exact if_pos hg) Tryz.underlying34) ?_ | refine zk rfl rfl rfl (fun hg => zuz rfl rfl Tryz.underlying34) ?_ | refine zk (x := .pub (.tup [])) rfl rfl rfl (fun hg => absurd hg (by decide)) ?_
   first | refine zk rfl rfl rfl (fun hg => vg rfl (by first | exact rfl | exact if_pos hg) rfl) ?_ | refine zk rfl rfl rfl (fun hg => vg rfl rfl rfl) ?_ | refine zk (x := .pub (.tup [])) rfl rfl rfl (fun hg => absurd hg (by decide)) ?_
   first | refine zg rfl rfl (qI rfl rfl rfl rfl) ?_ | refine zg rfl rfl (qU rfl rfl rfl rfl) ?_ | refine zg rfl rfl (zU rfl rfl (fun _ => rfl) (fun _ => rfl)) ?_ | refine zg rfl rfl (zU rfl rfl (fun _ => rfl) (fun h => absurd h (by decide))) ?_ | refine zg rfl rfl (zU rfl rfl (fun h => absurd h (by decide)) (fun _ => rfl)) ?_
   refine zo (zf (zx rfl (fun h2 => ?_) (fun h2 => ?_)))
   ·
    exfalso; simp at h2
   ·
    refine zC (zf (zl (zh ?_)))
    first | refine zg rfl rfl (zn rfl rfl) ?_ | refine zg rfl rfl (zW rfl rfl) ?_ | refine zg rfl rfl (qo rfl rfl) ?_ | refine zg rfl rfl (qV rfl rfl) ?_
    refine zo (zf (zl (zh ?_)))
    first | refine zg rfl rfl (zn rfl rfl) ?_ | refine zg rfl rfl (zW rfl rfl) ?_ | refine zg rfl rfl (qo rfl rfl) ?_ | refine zg rfl rfl (qV rfl rfl) ?_
    first | refine zg rfl rfl (zn rfl rfl) ?_ | refine zg rfl rfl (zW rfl rfl) ?_ | refine zg rfl rfl (qo rfl rfl) ?_ | refine zg rfl rfl (qV rfl rfl) ?_
    refine zo (zf (zl (zl (zh ?_))))
    first | refine zg rfl rfl (zi rfl rfl) ?_ | refine zg rfl rfl (zq rfl rfl) ?_ | refine zg rfl rfl (zI rfl rfl) ?_ | refine zg rfl rfl (zM rfl rfl) ?_
    refine zg rfl rfl (zuz rfl rfl Tryz.underlying34) (zg rfl rfl (qR rfl rfl rfl) (zo (zf (zx rfl (fun h4 => ?_) (fun h4 => ?_)))))
    ·
     refine zh ?_
     first | refine zg rfl rfl (zn rfl rfl) ?_ | refine zg rfl rfl (zW rfl rfl) ?_ | refine zg rfl rfl (qo rfl rfl) ?_ | refine zg rfl rfl (qV rfl rfl) ?_
     refine zo (zf (zl (zl (zh ?_))))
     first | refine zg rfl rfl (zi rfl rfl) ?_ | refine zg rfl rfl (zq rfl rfl) ?_ | refine zg rfl rfl (zI rfl rfl) ?_ | refine zg rfl rfl (zM rfl rfl) ?_
     refine zg rfl rfl (vg rfl rfl rfl) (zo (zf (zx rfl (fun h7 => ?_) (fun h7 => ?_))))
     ·
      refine zl (zh ?_)
      first | refine zg rfl rfl (zi rfl rfl) ?_ | refine zg rfl rfl (zq rfl rfl) ?_ | refine zg rfl rfl (zI rfl rfl) ?_ | refine zg rfl rfl (zM rfl rfl) ?_
      first | refine zg rfl rfl (zi rfl rfl) ?_ | refine zg rfl rfl (zq rfl rfl) ?_ | refine zg rfl rfl (zI rfl rfl) ?_ | refine zg rfl rfl (zM rfl rfl) ?_
      refine zg rfl rfl (qJ rfl rfl rfl) ?_
      first | refine zg rfl rfl (zi rfl rfl) ?_ | refine zg rfl rfl (zq rfl rfl) ?_ | refine zg rfl rfl (zI rfl rfl) ?_ | refine zg rfl rfl (zM rfl rfl) ?_
      first | refine zk rfl rfl rfl (fun hg => zi rfl rfl) ?_ | refine zk rfl rfl rfl (fun hg => zq rfl rfl) ?_ | refine zk rfl rfl rfl (fun hg => zI rfl rfl) ?_ | refine zk rfl rfl rfl (fun hg => zM rfl rfl) ?_ | refine zk (x := .pub (.tup [])) rfl rfl rfl (fun hg => absurd hg (by decide)) ?_
      first | refine zk rfl rfl rfl (fun hg => zuz rfl (by first | exact rfl | exact if_pos hg) Tryz.underlying23) ?_ | refine zk rfl rfl rfl (fun hg => zuz rfl rfl Tryz.underlying23) ?_ | refine zk (x := .pub (.tup [])) rfl rfl rfl (fun hg => absurd hg (by decide)) ?_
      first | refine zk rfl rfl rfl (fun hg => qJ rfl (by first | exact rfl | exact if_pos hg) rfl) ?_ | refine zk rfl rfl rfl (fun hg => qJ rfl rfl rfl) ?_ | refine zk (x := .pub (.tup [])) rfl rfl rfl (fun hg => absurd hg (by decide)) ?_
      first | refine zg rfl rfl (qI rfl rfl rfl rfl) ?_ | refine zg rfl rfl (qU rfl rfl rfl rfl) ?_ | refine zg rfl rfl (zU rfl rfl (fun _ => rfl) (fun _ => rfl)) ?_ | refine zg rfl rfl (zU rfl rfl (fun _ => rfl) (fun h => absurd h (by decide))) ?_ | refine zg rfl rfl (zU rfl rfl (fun h => absurd h (by decide)) (fun _ => rfl)) ?_
      first | refine zg rfl rfl (zi rfl rfl) ?_ | refine zg rfl rfl (zq rfl rfl) ?_ | refine zg rfl rfl (zI rfl rfl) ?_ | refine zg rfl rfl (zM rfl rfl) ?_
      first | refine zk rfl rfl rfl (fun hg => zy (av := []) rfl trivial hkn) ?_ | refine zk (x := .pub (.tup [])) rfl rfl rfl (fun hg => absurd hg (by decide)) ?_
      first | refine zg rfl rfl (qI rfl rfl rfl rfl) ?_ | refine zg rfl rfl (qU rfl rfl rfl rfl) ?_ | refine zg rfl rfl (zU rfl rfl (fun _ => rfl) (fun _ => rfl)) ?_ | refine zg rfl rfl (zU rfl rfl (fun _ => rfl) (fun h => absurd h (by decide))) ?_ | refine zg rfl rfl (zU rfl rfl (fun h => absurd h (by decide)) (fun _ => rfl)) ?_
      first | refine zg rfl rfl (zn rfl rfl) ?_ | refine zg rfl rfl (zW rfl rfl) ?_ | refine zg rfl rfl (qo rfl rfl) ?_ | refine zg rfl rfl (qV rfl rfl) ?_
      refine zo (zf (zP (zQ ?_)))
      exact ⟨.inr rfl, AVle.refl _⟩
     ·
      exfalso; simp at h7
    ·
     exfalso; simp at h4; omega
  ·
   have ho2 : o = true := by cases hcb : jA c <;> cases hbb : zuB bk <;> cases hmm : wS c ms <;> simp_all
   rw [ho2] at hP he
   simp only [if_true] at hP he
   subst hP
   subst he
   have hcc : jA c = true /\ wS c ms = true := by cases hcb : jA c <;> cases hbb : zuB bk <;> cases hmm : wS c ms <;> simp_all
   have hmb := zlx hcc.1 hcc.2
   refine zl (zh ?_)
   first | refine zg rfl rfl (zi rfl rfl) ?_ | refine zg rfl rfl (zq rfl rfl) ?_ | refine zg rfl rfl (zI rfl rfl) ?_ | refine zg rfl rfl (zM rfl rfl) ?_
   refine zg rfl rfl (vg rfl rfl rfl) ?_
   first | refine zg rfl rfl (zi rfl rfl) ?_ | refine zg rfl rfl (zq rfl rfl) ?_ | refine zg rfl rfl (zI rfl rfl) ?_ | refine zg rfl rfl (zM rfl rfl) ?_
   first | refine zk rfl rfl rfl (fun hg => zi rfl rfl) ?_ | refine zk rfl rfl rfl (fun hg => zq rfl rfl) ?_ | refine zk rfl rfl rfl (fun hg => zI rfl rfl) ?_ | refine zk rfl rfl rfl (fun hg => zM rfl rfl) ?_ | refine zk (x := .pub (.tup [])) rfl rfl rfl (fun hg => absurd hg (by decide)) ?_
   first | refine zk rfl rfl rfl (fun hg => zi rfl rfl) ?_ | refine zk rfl rfl rfl (fun hg => zq rfl rfl) ?_ | refine zk rfl rfl rfl (fun hg => zI rfl rfl) ?_ | refine zk rfl rfl rfl (fun hg => zM rfl rfl) ?_ | refine zk (x := .pub (.tup [])) rfl rfl rfl (fun hg => absurd hg (by decide)) ?_
   first | refine zk rfl rfl rfl (fun hg => zi rfl rfl) ?_ | refine zk rfl rfl rfl (fun hg => zq rfl rfl) ?_ | refine zk rfl rfl rfl (fun hg => zI rfl rfl) ?_ | refine zk rfl rfl rfl (fun hg => zM rfl rfl) ?_ | refine zk (x := .pub (.tup [])) rfl rfl rfl (fun hg => absurd hg (by decide)) ?_
   first | refine zk rfl rfl rfl (fun hg => zy (av := [_, _]) rfl ⟨(by first | exact (if_pos hg) | exact rfl), (by first | exact (if_pos hg) | exact rfl), trivial⟩ (f72 bk ms (by omega) hmb (by omega))) ?_ | refine zk rfl rfl rfl (fun hg => zy (av := [_, _]) rfl ⟨(by first | exact rfl | exact rfl), (by first | exact rfl | exact rfl), trivial⟩ (f72 bk ms (by omega) hmb (by omega))) ?_ | refine zk (x := .pub (.tup [])) rfl rfl rfl (fun hg => absurd hg (by decide)) ?_
   first | refine zk rfl rfl rfl (fun hg => zy (av := [_, _]) rfl ⟨(by first | exact (if_pos hg) | exact rfl), (by first | exact (if_pos hg) | exact rfl), trivial⟩ (zAd _ (zu0 bk ms) (by have := zvK (bk := bk) hm6; omega) rfl)) ?_ | refine zk rfl rfl rfl (fun hg => zy (av := [_, _]) rfl ⟨(by first | exact rfl | exact rfl), (by first | exact rfl | exact rfl), trivial⟩ (zAd _ (zu0 bk ms) (by have := zvK (bk := bk) hm6; omega) rfl)) ?_ | refine zk (x := .pub (.tup [])) rfl rfl rfl (fun hg => absurd hg (by decide)) ?_
   first | refine zk rfl rfl rfl (fun hg => je rfl (by first | exact rfl | exact if_pos hg)) ?_ | refine zk rfl rfl rfl (fun hg => je rfl rfl) ?_ | refine zk (x := .pub (.tup [])) rfl rfl rfl (fun hg => absurd hg (by decide)) ?_
   first | refine zg rfl rfl (qI rfl rfl rfl rfl) ?_ | refine zg rfl rfl (qU rfl rfl rfl rfl) ?_ | refine zg rfl rfl (zU rfl rfl (fun _ => rfl) (fun _ => rfl)) ?_ | refine zg rfl rfl (zU rfl rfl (fun _ => rfl) (fun h => absurd h (by decide))) ?_ | refine zg rfl rfl (zU rfl rfl (fun h => absurd h (by decide)) (fun _ => rfl)) ?_
   refine zo (zf (zx rfl (fun h3 => ?_) (fun h3 => ?_)))
   ·
    exfalso; simp at h3
   ·
    refine zC (zf (zl (zh ?_)))
    first | refine zg rfl rfl (zn rfl rfl) ?_ | refine zg rfl rfl (zW rfl rfl) ?_ | refine zg rfl rfl (qo rfl rfl) ?_ | refine zg rfl rfl (qV rfl rfl) ?_
    refine zo (zf (zl (zh ?_)))
    first | refine zg rfl rfl (zn rfl rfl) ?_ | refine zg rfl rfl (zW rfl rfl) ?_ | refine zg rfl rfl (qo rfl rfl) ?_ | refine zg rfl rfl (qV rfl rfl) ?_
    first | refine zg rfl rfl (zn rfl rfl) ?_ | refine zg rfl rfl (zW rfl rfl) ?_ | refine zg rfl rfl (qo rfl rfl) ?_ | refine zg rfl rfl (qV rfl rfl) ?_
    refine zo (zf (zl (zl (zh ?_))))
    first | refine zg rfl rfl (zi rfl rfl) ?_ | refine zg rfl rfl (zq rfl rfl) ?_ | refine zg rfl rfl (zI rfl rfl) ?_ | refine zg rfl rfl (zM rfl rfl) ?_
    refine zg rfl rfl (zuz rfl rfl Tryz.underlying34) (zg rfl rfl (qR rfl rfl rfl) (zo (zf (zx rfl (fun h4 => ?_) (fun h4 => ?_)))))
    ·
     refine zh ?_
     first | refine zg rfl rfl (zn rfl rfl) ?_ | refine zg rfl rfl (zW rfl rfl) ?_ | refine zg rfl rfl (qo rfl rfl) ?_ | refine zg rfl rfl (qV rfl rfl) ?_
     refine zo (zf (zl (zl (zh ?_))))
     first | refine zg rfl rfl (zi rfl rfl) ?_ | refine zg rfl rfl (zq rfl rfl) ?_ | refine zg rfl rfl (zI rfl rfl) ?_ | refine zg rfl rfl (zM rfl rfl) ?_
     refine zg rfl rfl (vg rfl rfl rfl) (zo (zf (zx rfl (fun h7 => ?_) (fun h7 => ?_))))
     ·
      refine zl (zh ?_)
      first | refine zg rfl rfl (zi rfl rfl) ?_ | refine zg rfl rfl (zq rfl rfl) ?_ | refine zg rfl rfl (zI rfl rfl) ?_ | refine zg rfl rfl (zM rfl rfl) ?_
      first | refine zg rfl rfl (zi rfl rfl) ?_ | refine zg rfl rfl (zq rfl rfl) ?_ | refine zg rfl rfl (zI rfl rfl) ?_ | refine zg rfl rfl (zM rfl rfl) ?_
      refine zg rfl rfl (qJ rfl rfl rfl) ?_
      first | refine zg rfl rfl (zi rfl rfl) ?_ | refine zg rfl rfl (zq rfl rfl) ?_ | refine zg rfl rfl (zI rfl rfl) ?_ | refine zg rfl rfl (zM rfl rfl) ?_
      first | refine zk rfl rfl rfl (fun hg => zi rfl rfl) ?_ | refine zk rfl rfl rfl (fun hg => zq rfl rfl) ?_ | refine zk rfl rfl rfl (fun hg => zI rfl rfl) ?_ | refine zk rfl rfl rfl (fun hg => zM rfl rfl) ?_ | refine zk (x := .pub (.tup [])) rfl rfl rfl (fun hg => absurd hg (by decide)) ?_
      first | refine zk rfl rfl rfl (fun hg => zuz rfl (by first | exact rfl | exact if_pos hg) Tryz.underlying23) ?_ | refine zk rfl rfl rfl (fun hg => zuz rfl rfl Tryz.underlying23) ?_ | refine zk (x := .pub (.tup [])) rfl rfl rfl (fun hg => absurd hg (by decide)) ?_
      first | refine zk rfl rfl rfl (fun hg => qJ rfl (by first | exact rfl | exact if_pos hg) rfl) ?_ | refine zk rfl rfl rfl (fun hg => qJ rfl rfl rfl) ?_ | refine zk (x := .pub (.tup [])) rfl rfl rfl (fun hg => absurd hg (by decide)) ?_
      first | refine zg rfl rfl (qI rfl rfl rfl rfl) ?_ | refine zg rfl rfl (qU rfl rfl rfl rfl) ?_ | refine zg rfl rfl (zU rfl rfl (fun _ => rfl) (fun _ => rfl)) ?_ | refine zg rfl rfl (zU rfl rfl (fun _ => rfl) (fun h => absurd h (by decide))) ?_ | refine zg rfl rfl (zU rfl rfl (fun h => absurd h (by decide)) (fun _ => rfl)) ?_
      first | refine zg rfl rfl (zi rfl rfl) ?_ | refine zg rfl rfl (zq rfl rfl) ?_ | refine zg rfl rfl (zI rfl rfl) ?_ | refine zg rfl rfl (zM rfl rfl) ?_
      first | refine zk rfl rfl rfl (fun hg => zy (av := []) rfl trivial hkn) ?_ | refine zk (x := .pub (.tup [])) rfl rfl rfl (fun hg => absurd hg (by decide)) ?_
      first | refine zg rfl rfl (qI rfl rfl rfl rfl) ?_ | refine zg rfl rfl (qU rfl rfl rfl rfl) ?_ | refine zg rfl rfl (zU rfl rfl (fun _ => rfl) (fun _ => rfl)) ?_ | refine zg rfl rfl (zU rfl rfl (fun _ => rfl) (fun h => absurd h (by decide))) ?_ | refine zg rfl rfl (zU rfl rfl (fun h => absurd h (by decide)) (fun _ => rfl)) ?_
      first | refine zg rfl rfl (zn rfl rfl) ?_ | refine zg rfl rfl (zW rfl rfl) ?_ | refine zg rfl rfl (qo rfl rfl) ?_ | refine zg rfl rfl (qV rfl rfl) ?_
      refine zo (zf (zP (zQ ?_)))
      exact ⟨.inr rfl, AVle.refl _⟩
     ·
      exfalso; simp at h7
    ·
     exfalso; simp at h4; omega
theorem zAP (hkn : KN G) (c : Cod) (bk : List Ent) (ms : List Int) (ts : LS) (hw : ∀ e ∈ bk, e.word.length <= 9223372036854775807) (hs : y7 c = true) (hb15 : bk.length <= 15) (hm6 : ms.length <= 6) (hb : zjc ts = true) {o g : Bool} (hg1 : (jA c && zuB bk) = g) (ho : (g && wS c ms) = o) {P : LS} {e : Int} (hP : P = if o = true then zu0 bk ms else []) (he : e = if o = true then 0 else 2) (c70 : ACall Tryz.prog G 70 [.agg (qK c), eBk bk, zO ms] (.tup [jD P, ei e])) (hl : ts.length <= 8) (hgf : g = false) : ACall Tryz.prog G 16 [.agg (qK c), eBk bk, zO ms, jD ts] (.v (.bool true)) := by
 have hcs := zvI hs
 have htl := zwh hb
 subst hgf
 refine zS Tryz.func16 rfl (by kernel_rfl) rfl ?_
 refine zl (zh (zg rfl rfl (jf rfl (zY rfl)) ?_))
 first | refine zg rfl rfl (zn rfl rfl) ?_ | refine zg rfl rfl (zW rfl rfl) ?_ | refine zg rfl rfl (qo rfl rfl) ?_ | refine zg rfl rfl (qV rfl rfl) ?_
 refine zo (zf (zl (zl (zh ?_))))
 first | refine zg rfl rfl (zZ rfl rfl wH (by exact zLb rfl)) ?_ | refine zg rfl rfl (qN (cs := [_, _, _]) rfl rfl rfl rfl rfl (by exact zLb rfl) rfl wH) ?_ | refine zg rfl rfl (qf rfl rfl rfl rfl rfl (by exact zLb rfl) rfl wH) ?_
 refine zg rfl rfl (zy (av := [_]) rfl ⟨rfl, trivial⟩ (zoc c hs)) (zg rfl rfl (je rfl rfl) ?_)
 first | refine zg rfl rfl (zi rfl rfl) ?_ | refine zg rfl rfl (zq rfl rfl) ?_ | refine zg rfl rfl (zI rfl rfl) ?_ | refine zg rfl rfl (zM rfl rfl) ?_
 first | refine zk rfl rfl rfl (fun hg => zi rfl rfl) ?_ | refine zk rfl rfl rfl (fun hg => zq rfl rfl) ?_ | refine zk rfl rfl rfl (fun hg => zI rfl rfl) ?_ | refine zk rfl rfl rfl (fun hg => zM rfl rfl) ?_ | refine zk (x := .pub (.tup [])) rfl rfl rfl (fun hg => absurd hg (by decide)) ?_
 first | refine zk rfl rfl rfl (fun hg => zuz rfl (by first | exact rfl | exact if_pos hg) Tryz.underlying63) ?_ | refine zk rfl rfl rfl (fun hg => zuz rfl rfl Tryz.underlying63) ?_ | refine zk (x := .pub (.tup [])) rfl rfl rfl (fun hg => absurd hg (by decide)) ?_
 first | refine zk rfl rfl rfl (fun hg => qR rfl (by first | exact rfl | exact if_pos hg) rfl) ?_ | refine zk rfl rfl rfl (fun hg => qR rfl rfl rfl) ?_ | refine zk (x := .pub (.tup [])) rfl rfl rfl (fun hg => absurd hg (by decide)) ?_
 first | refine zg rfl rfl (qI rfl rfl rfl rfl) ?_ | refine zg rfl rfl (qU rfl rfl rfl rfl) ?_ | refine zg rfl rfl (zU rfl rfl (fun _ => rfl) (fun _ => rfl)) ?_ | refine zg rfl rfl (zU rfl rfl (fun _ => rfl) (fun h => absurd h (by decide))) ?_ | refine zg rfl rfl (zU rfl rfl (fun h => absurd h (by decide)) (fun _ => rfl)) ?_
 first | refine zg rfl rfl (zi rfl rfl) ?_ | refine zg rfl rfl (zq rfl rfl) ?_ | refine zg rfl rfl (zI rfl rfl) ?_ | refine zg rfl rfl (zM rfl rfl) ?_
 first | refine zk rfl rfl rfl (fun hg => zi rfl rfl) ?_ | refine zk rfl rfl rfl (fun hg => zq rfl rfl) ?_ | refine zk rfl rfl rfl (fun hg => zI rfl rfl) ?_ | refine zk rfl rfl rfl (fun hg => zM rfl rfl) ?_ | refine zk (x := .pub (.tup [])) rfl rfl rfl (fun hg => absurd hg (by decide)) ?_
 first | refine zk rfl rfl rfl (fun hg => zuz rfl (by first | exact rfl | exact if_pos hg) Tryz.underlying23) ?_ | refine zk rfl rfl rfl (fun hg => zuz rfl rfl Tryz.underlying23) ?_ | refine zk (x := .pub (.tup [])) rfl rfl rfl (fun hg => absurd hg (by decide)) ?_
 first | refine zk rfl rfl rfl (fun hg => qR rfl (by first | exact rfl | exact if_pos hg) rfl) ?_ | refine zk rfl rfl rfl (fun hg => qR rfl rfl rfl) ?_ | refine zk (x := .pub (.tup [])) rfl rfl rfl (fun hg => absurd hg (by decide)) ?_
 first | refine zg rfl rfl (qI rfl rfl rfl rfl) ?_ | refine zg rfl rfl (qU rfl rfl rfl rfl) ?_ | refine zg rfl rfl (zU rfl rfl (fun _ => rfl) (fun _ => rfl)) ?_ | refine zg rfl rfl (zU rfl rfl (fun _ => rfl) (fun h => absurd h (by decide))) ?_ | refine zg rfl rfl (zU rfl rfl (fun h => absurd h (by decide)) (fun _ => rfl)) ?_
 first | refine zg rfl rfl (zi rfl rfl) ?_ | refine zg rfl rfl (zq rfl rfl) ?_ | refine zg rfl rfl (zI rfl rfl) ?_ | refine zg rfl rfl (zM rfl rfl) ?_
 first | refine zk rfl rfl rfl (fun hg => zi rfl rfl) ?_ | refine zk rfl rfl rfl (fun hg => zq rfl rfl) ?_ | refine zk rfl rfl rfl (fun hg => zI rfl rfl) ?_ | refine zk rfl rfl rfl (fun hg => zM rfl rfl) ?_ | refine zk (x := .pub (.tup [])) rfl rfl rfl (fun hg => absurd hg (by decide)) ?_
 first | refine zk rfl rfl rfl (fun hg => zy (av := [_]) rfl ⟨(by first | exact (if_pos hg) | exact rfl), trivial⟩ (zxv ts hb)) ?_ | refine zk rfl rfl rfl (fun hg => zy (av := [_]) rfl ⟨(by first | exact rfl | exact rfl), trivial⟩ (zxv ts hb)) ?_ | refine zk (x := .pub (.tup [])) rfl rfl rfl (fun hg => absurd hg (by decide)) ?_
 first | refine zk rfl rfl rfl (fun hg => je rfl (by first | exact rfl | exact if_pos hg)) ?_ | refine zk rfl rfl rfl (fun hg => je rfl rfl) ?_ | refine zk (x := .pub (.tup [])) rfl rfl rfl (fun hg => absurd hg (by decide)) ?_
 first | refine zg rfl rfl (qI rfl rfl rfl rfl) ?_ | refine zg rfl rfl (qU rfl rfl rfl rfl) ?_ | refine zg rfl rfl (zU rfl rfl (fun _ => rfl) (fun _ => rfl)) ?_ | refine zg rfl rfl (zU rfl rfl (fun _ => rfl) (fun h => absurd h (by decide))) ?_ | refine zg rfl rfl (zU rfl rfl (fun h => absurd h (by decide)) (fun _ => rfl)) ?_
 refine zo (zf (zx rfl (fun h0 => ?_) (fun h0 => ?_)))
 ·
  exfalso; simp [eBk, zO] at h0; omega
 ·
  refine zC (zf (zl (zh ?_)))
  first | refine zg rfl rfl (zZ rfl rfl wH (by exact zLb rfl)) ?_ | refine zg rfl rfl (qN (cs := [_, _, _]) rfl rfl rfl rfl rfl (by exact zLb rfl) rfl wH) ?_ | refine zg rfl rfl (qf rfl rfl rfl rfl rfl (by exact zLb rfl) rfl wH) ?_
  first | refine zg rfl rfl (zi rfl rfl) ?_ | refine zg rfl rfl (zq rfl rfl) ?_ | refine zg rfl rfl (zI rfl rfl) ?_ | refine zg rfl rfl (zM rfl rfl) ?_
  first | refine zg rfl rfl (zi rfl rfl) ?_ | refine zg rfl rfl (zq rfl rfl) ?_ | refine zg rfl rfl (zI rfl rfl) ?_ | refine zg rfl rfl (zM rfl rfl) ?_
  refine zg rfl rfl (zy (av := [_, _, _]) rfl ⟨rfl, rfl, rfl, trivial⟩ c70) ?_
  first | refine zg rfl rfl (zi rfl rfl) ?_ | refine zg rfl rfl (zq rfl rfl) ?_ | refine zg rfl rfl (zI rfl rfl) ?_ | refine zg rfl rfl (zM rfl rfl) ?_
  refine zg rfl rfl (zN rfl rfl rfl) (zg rfl rfl (zN rfl rfl rfl) ?_)
  first | refine zg rfl rfl (zn rfl rfl) ?_ | refine zg rfl rfl (zW rfl rfl) ?_ | refine zg rfl rfl (qo rfl rfl) ?_ | refine zg rfl rfl (qV rfl rfl) ?_
  first | refine zg rfl rfl (zn rfl rfl) ?_ | refine zg rfl rfl (zW rfl rfl) ?_ | refine zg rfl rfl (qo rfl rfl) ?_ | refine zg rfl rfl (qV rfl rfl) ?_
  refine zo (zf (zl (zh ?_)))
  first | refine zg rfl rfl (zZ rfl rfl wH (by exact zLb rfl)) ?_ | refine zg rfl rfl (qN (cs := [_, _, _]) rfl rfl rfl rfl rfl (by exact zLb rfl) rfl wH) ?_ | refine zg rfl rfl (qf rfl rfl rfl rfl rfl (by exact zLb rfl) rfl wH) ?_
  first | refine zg rfl rfl (zi rfl rfl) ?_ | refine zg rfl rfl (zq rfl rfl) ?_ | refine zg rfl rfl (zI rfl rfl) ?_ | refine zg rfl rfl (zM rfl rfl) ?_
  first | refine zg rfl rfl (zi rfl rfl) ?_ | refine zg rfl rfl (zq rfl rfl) ?_ | refine zg rfl rfl (zI rfl rfl) ?_ | refine zg rfl rfl (zM rfl rfl) ?_
  refine zg rfl rfl (zy (av := [_, _, _]) rfl ⟨rfl, rfl, rfl, trivial⟩ (zBU c bk ts hcs (by omega) hl hg1)) ?_
  first | refine zg rfl rfl (zi rfl rfl) ?_ | refine zg rfl rfl (zq rfl rfl) ?_ | refine zg rfl rfl (zI rfl rfl) ?_ | refine zg rfl rfl (zM rfl rfl) ?_
  refine zg rfl rfl (zN rfl rfl rfl) (zg rfl rfl (zN rfl rfl rfl) ?_)
  first | refine zg rfl rfl (zn rfl rfl) ?_ | refine zg rfl rfl (zW rfl rfl) ?_ | refine zg rfl rfl (qo rfl rfl) ?_ | refine zg rfl rfl (qV rfl rfl) ?_
  first | refine zg rfl rfl (zn rfl rfl) ?_ | refine zg rfl rfl (zW rfl rfl) ?_ | refine zg rfl rfl (qo rfl rfl) ?_ | refine zg rfl rfl (qV rfl rfl) ?_
  refine zo (zf (zl (zh ?_)))
  first | refine zg rfl rfl (zZ rfl rfl wH (by exact zLb rfl)) ?_ | refine zg rfl rfl (qN (cs := [_, _, _]) rfl rfl rfl rfl rfl (by exact zLb rfl) rfl wH) ?_ | refine zg rfl rfl (qf rfl rfl rfl rfl rfl (by exact zLb rfl) rfl wH) ?_
  refine zg rfl rfl (zy (av := [_]) rfl ⟨rfl, trivial⟩ (f31 c hcs)) ?_
  first | refine zg rfl rfl (zi rfl rfl) ?_ | refine zg rfl rfl (zq rfl rfl) ?_ | refine zg rfl rfl (zI rfl rfl) ?_ | refine zg rfl rfl (zM rfl rfl) ?_
  first | refine zk rfl rfl rfl (fun hg => zi rfl rfl) ?_ | refine zk rfl rfl rfl (fun hg => zq rfl rfl) ?_ | refine zk rfl rfl rfl (fun hg => zI rfl rfl) ?_ | refine zk rfl rfl rfl (fun hg => zM rfl rfl) ?_ | refine zk (x := .pub (.tup [])) rfl rfl rfl (fun hg => absurd hg (by decide)) ?_
  first | refine zk rfl rfl rfl (fun hg => zy (av := [_]) rfl ⟨(by first | exact (if_pos hg) | exact rfl), trivial⟩ (f47 bk (by omega) hw)) ?_ | refine zk rfl rfl rfl (fun hg => zy (av := [_]) rfl ⟨(by first | exact rfl | exact rfl), trivial⟩ (f47 bk (by omega) hw)) ?_ | refine zk (x := .pub (.tup [])) rfl rfl rfl (fun hg => absurd hg (by decide)) ?_
  first | refine zg rfl rfl (qI rfl rfl rfl rfl) ?_ | refine zg rfl rfl (qU rfl rfl rfl rfl) ?_ | refine zg rfl rfl (zU rfl rfl (fun _ => rfl) (fun _ => rfl)) ?_ | refine zg rfl rfl (zU rfl rfl (fun _ => rfl) (fun h => absurd h (by decide))) ?_ | refine zg rfl rfl (zU rfl rfl (fun h => absurd h (by decide)) (fun _ => rfl)) ?_
  first | refine zg rfl rfl (zn rfl rfl) ?_ | refine zg rfl rfl (zW rfl rfl) ?_ | refine zg rfl rfl (qo rfl rfl) ?_ | refine zg rfl rfl (qV rfl rfl) ?_
  refine zo (zf (zl (zl (zh ?_))))
  first | refine zg rfl rfl (zi rfl rfl) ?_ | refine zg rfl rfl (zq rfl rfl) ?_ | refine zg rfl rfl (zI rfl rfl) ?_ | refine zg rfl rfl (zM rfl rfl) ?_
  refine zg rfl rfl (je rfl rfl) ?_
  first | refine zg rfl rfl (zi rfl rfl) ?_ | refine zg rfl rfl (zq rfl rfl) ?_ | refine zg rfl rfl (zI rfl rfl) ?_ | refine zg rfl rfl (zM rfl rfl) ?_
  first | refine zk rfl rfl rfl (fun hg => zZ rfl rfl wH (by exact zLb rfl)) ?_ | refine zk rfl rfl rfl (fun hg => qN (cs := [_, _, _]) rfl rfl rfl rfl rfl (by exact zLb rfl) rfl wH) ?_ | refine zk rfl rfl rfl (fun hg => qf rfl rfl rfl rfl rfl (by exact zLb rfl) rfl wH) ?_ | refine zk (x := .pub (.tup [])) rfl rfl rfl (fun hg => absurd hg (by decide)) ?_
  first | refine zk rfl rfl rfl (fun hg => zi rfl rfl) ?_ | refine zk rfl rfl rfl (fun hg => zq rfl rfl) ?_ | refine zk rfl rfl rfl (fun hg => zI rfl rfl) ?_ | refine zk rfl rfl rfl (fun hg => zM rfl rfl) ?_ | refine zk (x := .pub (.tup [])) rfl rfl rfl (fun hg => absurd hg (by decide)) ?_
  first | refine zk rfl rfl rfl (fun hg => zy (av := [_, _]) rfl ⟨(by first | exact (if_pos hg) | exact rfl), (by first | exact (if_pos hg) | exact rfl), trivial⟩ (f32 c ms (by omega))) ?_ | refine zk rfl rfl rfl (fun hg => zy (av := [_, _]) rfl ⟨(by first | exact rfl | exact rfl), (by first | exact rfl | exact rfl), trivial⟩ (f32 c ms (by omega))) ?_ | refine zk (x := .pub (.tup [])) rfl rfl rfl (fun hg => absurd hg (by decide)) ?_
  first | refine zk rfl rfl rfl (fun hg => je rfl (by first | exact rfl | exact if_pos hg)) ?_ | refine zk rfl rfl rfl (fun hg => je rfl rfl) ?_ | refine zk (x := .pub (.tup [])) rfl rfl rfl (fun hg => absurd hg (by decide)) ?_
  first | refine zg rfl rfl (qI rfl rfl rfl rfl) ?_ | refine zg rfl rfl (qU rfl rfl rfl rfl) ?_ | refine zg rfl rfl (zU rfl rfl (fun _ => rfl) (fun _ => rfl)) ?_ | refine zg rfl rfl (zU rfl rfl (fun _ => rfl) (fun h => absurd h (by decide))) ?_ | refine zg rfl rfl (zU rfl rfl (fun h => absurd h (by decide)) (fun _ => rfl)) ?_
  refine zo (zf (zx rfl (fun h1 => ?_) (fun h1 => ?_)))
  ·
   have ho2 : o = false := by cases hcb : jA c <;> cases hbb : zuB bk <;> cases hmm : wS c ms <;> simp_all
   rw [ho2] at hP he
   simp only [Bool.false_eq_true, if_false] at hP he
   subst hP
   subst he
   refine zl (zh ?_)
   first | refine zg rfl rfl (zi rfl rfl) ?_ | refine zg rfl rfl (zq rfl rfl) ?_ | refine zg rfl rfl (zI rfl rfl) ?_ | refine zg rfl rfl (zM rfl rfl) ?_
   refine zg rfl rfl (vg rfl rfl rfl) ?_
   first | refine zg rfl rfl (zi rfl rfl) ?_ | refine zg rfl rfl (zq rfl rfl) ?_ | refine zg rfl rfl (zI rfl rfl) ?_ | refine zg rfl rfl (zM rfl rfl) ?_
   first | refine zk rfl rfl rfl (fun hg => zi rfl rfl) ?_ | refine zk rfl rfl rfl (fun hg => zq rfl rfl) ?_ | refine zk rfl rfl rfl (fun hg => zI rfl rfl) ?_ | refine zk rfl rfl rfl (fun hg => zM rfl rfl) ?_ | refine zk (x := .pub (.tup [])) rfl rfl rfl (fun hg => absurd hg (by decide)) ?_
   first | refine zk rfl rfl rfl (fun hg => zuz rfl (by first | exact rfl | exact if_pos hg) Tryz.underlying34) ?_ | refine zk rfl rfl rfl (fun hg => zuz rfl rfl Tryz.underlying34) ?_ | refine zk (x := .pub (.tup [])) rfl rfl rfl (fun hg => absurd hg (by decide)) ?_
   first | refine zk rfl rfl rfl (fun hg => vg rfl (by first | exact rfl | exact if_pos hg) rfl) ?_ | refine zk rfl rfl rfl (fun hg => vg rfl rfl rfl) ?_ | refine zk (x := .pub (.tup [])) rfl rfl rfl (fun hg => absurd hg (by decide)) ?_
   first | refine zg rfl rfl (qI rfl rfl rfl rfl) ?_ | refine zg rfl rfl (qU rfl rfl rfl rfl) ?_ | refine zg rfl rfl (zU rfl rfl (fun _ => rfl) (fun _ => rfl)) ?_ | refine zg rfl rfl (zU rfl rfl (fun _ => rfl) (fun h => absurd h (by decide))) ?_ | refine zg rfl rfl (zU rfl rfl (fun h => absurd h (by decide)) (fun _ => rfl)) ?_
   refine zo (zf (zx rfl (fun h2 => ?_) (fun h2 => ?_)))
   ·
    exfalso; simp at h2
   ·
    refine zC (zf (zl (zh ?_)))
    first | refine zg rfl rfl (zn rfl rfl) ?_ | refine zg rfl rfl (zW rfl rfl) ?_ | refine zg rfl rfl (qo rfl rfl) ?_ | refine zg rfl rfl (qV rfl rfl) ?_
    refine zo (zf (zl (zh ?_)))
    first | refine zg rfl rfl (zn rfl rfl) ?_ | refine zg rfl rfl (zW rfl rfl) ?_ | refine zg rfl rfl (qo rfl rfl) ?_ | refine zg rfl rfl (qV rfl rfl) ?_
    first | refine zg rfl rfl (zn rfl rfl) ?_ | refine zg rfl rfl (zW rfl rfl) ?_ | refine zg rfl rfl (qo rfl rfl) ?_ | refine zg rfl rfl (qV rfl rfl) ?_
    refine zo (zf (zl (zl (zh ?_))))
    first | refine zg rfl rfl (zi rfl rfl) ?_ | refine zg rfl rfl (zq rfl rfl) ?_ | refine zg rfl rfl (zI rfl rfl) ?_ | refine zg rfl rfl (zM rfl rfl) ?_
    refine zg rfl rfl (zuz rfl rfl Tryz.underlying34) (zg rfl rfl (qR rfl rfl rfl) (zo (zf (zx rfl (fun h4 => ?_) (fun h4 => ?_)))))
    ·
     exfalso; simp at h4; omega
    ·
     refine zl (zh ?_)
     first | refine zg rfl rfl (zi rfl rfl) ?_ | refine zg rfl rfl (zq rfl rfl) ?_ | refine zg rfl rfl (zI rfl rfl) ?_ | refine zg rfl rfl (zM rfl rfl) ?_
     refine zg rfl rfl (je rfl rfl) (zo (zf (zx rfl (fun h5 => ?_) (fun h5 => ?_))))
     ·
      refine zh ?_
      first | refine zg rfl rfl (zn rfl rfl) ?_ | refine zg rfl rfl (zW rfl rfl) ?_ | refine zg rfl rfl (qo rfl rfl) ?_ | refine zg rfl rfl (qV rfl rfl) ?_
      refine zo (zf (zl (zl (zh ?_))))
      first | refine zg rfl rfl (zi rfl rfl) ?_ | refine zg rfl rfl (zq rfl rfl) ?_ | refine zg rfl rfl (zI rfl rfl) ?_ | refine zg rfl rfl (zM rfl rfl) ?_
      refine zg rfl rfl (vg rfl rfl rfl) (zo (zf (zx rfl (fun h7 => ?_) (fun h7 => ?_))))
      ·
       refine zl (zh ?_)
       first | refine zg rfl rfl (zi rfl rfl) ?_ | refine zg rfl rfl (zq rfl rfl) ?_ | refine zg rfl rfl (zI rfl rfl) ?_ | refine zg rfl rfl (zM rfl rfl) ?_
       first | refine zg rfl rfl (zi rfl rfl) ?_ | refine zg rfl rfl (zq rfl rfl) ?_ | refine zg rfl rfl (zI rfl rfl) ?_ | refine zg rfl rfl (zM rfl rfl) ?_
       refine zg rfl rfl (qJ rfl rfl rfl) ?_
       first | refine zg rfl rfl (zi rfl rfl) ?_ | refine zg rfl rfl (zq rfl rfl) ?_ | refine zg rfl rfl (zI rfl rfl) ?_ | refine zg rfl rfl (zM rfl rfl) ?_
       first | refine zk rfl rfl rfl (fun hg => zi rfl rfl) ?_ | refine zk rfl rfl rfl (fun hg => zq rfl rfl) ?_ | refine zk rfl rfl rfl (fun hg => zI rfl rfl) ?_ | refine zk rfl rfl rfl (fun hg => zM rfl rfl) ?_ | refine zk (x := .pub (.tup [])) rfl rfl rfl (fun hg => absurd hg (by decide)) ?_
       first | refine zk rfl rfl rfl (fun hg => zuz rfl (by first | exact rfl | exact if_pos hg) Tryz.underlying23) ?_ | refine zk rfl rfl rfl (fun hg => zuz rfl rfl Tryz.underlying23) ?_ | refine zk (x := .pub (.tup [])) rfl rfl rfl (fun hg => absurd hg (by decide)) ?_
       first | refine zk rfl rfl rfl (fun hg => qJ rfl (by first | exact rfl | exact if_pos hg) rfl) ?_ | refine zk rfl rfl rfl (fun hg => qJ rfl rfl rfl) ?_ | refine zk (x := .pub (.tup [])) rfl rfl rfl (fun hg => absurd hg (by decide)) ?_
       first | refine zg rfl rfl (qI rfl rfl rfl rfl) ?_ | refine zg rfl rfl (qU rfl rfl rfl rfl) ?_ | refine zg rfl rfl (zU rfl rfl (fun _ => rfl) (fun _ => rfl)) ?_ | refine zg rfl rfl (zU rfl rfl (fun _ => rfl) (fun h => absurd h (by decide))) ?_ | refine zg rfl rfl (zU rfl rfl (fun h => absurd h (by decide)) (fun _ => rfl)) ?_
       first | refine zg rfl rfl (zi rfl rfl) ?_ | refine zg rfl rfl (zq rfl rfl) ?_ | refine zg rfl rfl (zI rfl rfl) ?_ | refine zg rfl rfl (zM rfl rfl) ?_
       first | refine zk rfl rfl rfl (fun hg => zy (av := []) rfl trivial hkn) ?_ | refine zk (x := .pub (.tup [])) rfl rfl rfl (fun hg => absurd hg (by decide)) ?_
       first | refine zg rfl rfl (qI rfl rfl rfl rfl) ?_ | refine zg rfl rfl (qU rfl rfl rfl rfl) ?_ | refine zg rfl rfl (zU rfl rfl (fun _ => rfl) (fun _ => rfl)) ?_ | refine zg rfl rfl (zU rfl rfl (fun _ => rfl) (fun h => absurd h (by decide))) ?_ | refine zg rfl rfl (zU rfl rfl (fun h => absurd h (by decide)) (fun _ => rfl)) ?_
       first | refine zg rfl rfl (zn rfl rfl) ?_ | refine zg rfl rfl (zW rfl rfl) ?_ | refine zg rfl rfl (qo rfl rfl) ?_ | refine zg rfl rfl (qV rfl rfl) ?_
       refine zo (zf (zP (zQ ?_)))
       exact ⟨.inr rfl, AVle.refl _⟩
      ·
       exfalso; simp at h7
     ·
      exfalso; cases hcb : jA c <;> cases hbb : zuB bk <;> cases hmm : wS c ms <;> simp_all
  ·
   exfalso; cases hcb : jA c <;> cases hbb : zuB bk <;> cases hmm : wS c ms <;> simp_all
theorem zyo (hkn : KN G) (c : Cod) (bk : List Ent) (ms : List Int) (ts : LS) (hw : ∀ e ∈ bk, e.word.length <= 9223372036854775807) (hs : y7 c = true) (hb15 : bk.length <= 15) (hm6 : ms.length <= 6) (hb : zjc ts = true) {o g : Bool} (hg1 : (jA c && zuB bk) = g) (ho : (g && wS c ms) = o) {P : LS} {e : Int} (hP : P = if o = true then zu0 bk ms else []) (he : e = if o = true then 0 else 2) (c70 : ACall Tryz.prog G 70 [.agg (qK c), eBk bk, zO ms] (.tup [jD P, ei e])) (hl : ts.length <= 8) (hgt : g = true) {A A2 : List Int} {e2 : Int} {b2 : Bool} (c71 : ACall Tryz.prog G 71 [.agg (qK c), eBk bk, jD ts] (.tup [zO A, ei e2])) (c73 : ACall Tryz.prog G 73 [.agg (qK c), eBk bk, jD ts] (.tup [zO A2, .v (.bool b2)])) (hA : A.length <= 1000) (hyes : b2 = true -> e2 = 0 /\ A = A2) (hno : b2 = false -> e2 = 4 /\ A = []) : ACall Tryz.prog G 16 [.agg (qK c), eBk bk, zO ms, jD ts] (.v (.bool true)) := by
 have hcs := zvI hs
 have htl := zwh hb
 subst hgt
 refine zS Tryz.func16 rfl (by kernel_rfl) rfl ?_
 refine zl (zh (zg rfl rfl (jf rfl (zY rfl)) ?_))
 first | refine zg rfl rfl (zn rfl rfl) ?_ | refine zg rfl rfl (zW rfl rfl) ?_ | refine zg rfl rfl (qo rfl rfl) ?_ | refine zg rfl rfl (qV rfl rfl) ?_
 refine zo (zf (zl (zl (zh ?_))))
 first | refine zg rfl rfl (zZ rfl rfl wH (by exact zLb rfl)) ?_ | refine zg rfl rfl (qN (cs := [_, _, _]) rfl rfl rfl rfl rfl (by exact zLb rfl) rfl wH) ?_ | refine zg rfl rfl (qf rfl rfl rfl rfl rfl (by exact zLb rfl) rfl wH) ?_
 refine zg rfl rfl (zy (av := [_]) rfl ⟨rfl, trivial⟩ (zoc c hs)) (zg rfl rfl (je rfl rfl) ?_)
 first | refine zg rfl rfl (zi rfl rfl) ?_ | refine zg rfl rfl (zq rfl rfl) ?_ | refine zg rfl rfl (zI rfl rfl) ?_ | refine zg rfl rfl (zM rfl rfl) ?_
 first | refine zk rfl rfl rfl (fun hg => zi rfl rfl) ?_ | refine zk rfl rfl rfl (fun hg => zq rfl rfl) ?_ | refine zk rfl rfl rfl (fun hg => zI rfl rfl) ?_ | refine zk rfl rfl rfl (fun hg => zM rfl rfl) ?_ | refine zk (x := .pub (.tup [])) rfl rfl rfl (fun hg => absurd hg (by decide)) ?_
 first | refine zk rfl rfl rfl (fun hg => zuz rfl (by first | exact rfl | exact if_pos hg) Tryz.underlying63) ?_ | refine zk rfl rfl rfl (fun hg => zuz rfl rfl Tryz.underlying63) ?_ | refine zk (x := .pub (.tup [])) rfl rfl rfl (fun hg => absurd hg (by decide)) ?_
 first | refine zk rfl rfl rfl (fun hg => qR rfl (by first | exact rfl | exact if_pos hg) rfl) ?_ | refine zk rfl rfl rfl (fun hg => qR rfl rfl rfl) ?_ | refine zk (x := .pub (.tup [])) rfl rfl rfl (fun hg => absurd hg (by decide)) ?_
 first | refine zg rfl rfl (qI rfl rfl rfl rfl) ?_ | refine zg rfl rfl (qU rfl rfl rfl rfl) ?_ | refine zg rfl rfl (zU rfl rfl (fun _ => rfl) (fun _ => rfl)) ?_ | refine zg rfl rfl (zU rfl rfl (fun _ => rfl) (fun h => absurd h (by decide))) ?_ | refine zg rfl rfl (zU rfl rfl (fun h => absurd h (by decide)) (fun _ => rfl)) ?_
 first | refine zg rfl rfl (zi rfl rfl) ?_ | refine zg rfl rfl (zq rfl rfl) ?_ | refine zg rfl rfl (zI rfl rfl) ?_ | refine zg rfl rfl (zM rfl rfl) ?_
 first | refine zk rfl rfl rfl (fun hg => zi rfl rfl) ?_ | refine zk rfl rfl rfl (fun hg => zq rfl rfl) ?_ | refine zk rfl rfl rfl (fun hg => zI rfl rfl) ?_ | refine zk rfl rfl rfl (fun hg => zM rfl rfl) ?_ | refine zk (x := .pub (.tup [])) rfl rfl rfl (fun hg => absurd hg (by decide)) ?_
 first | refine zk rfl rfl rfl (fun hg => zuz rfl (by first | exact rfl | exact if_pos hg) Tryz.underlying23) ?_ | refine zk rfl rfl rfl (fun hg => zuz rfl rfl Tryz.underlying23) ?_ | refine zk (x := .pub (.tup [])) rfl rfl rfl (fun hg => absurd hg (by decide)) ?_
 first | refine zk rfl rfl rfl (fun hg => qR rfl (by first | exact rfl | exact if_pos hg) rfl) ?_ | refine zk rfl rfl rfl (fun hg => qR rfl rfl rfl) ?_ | refine zk (x := .pub (.tup [])) rfl rfl rfl (fun hg => absurd hg (by decide)) ?_
 first | refine zg rfl rfl (qI rfl rfl rfl rfl) ?_ | refine zg rfl rfl (qU rfl rfl rfl rfl) ?_ | refine zg rfl rfl (zU rfl rfl (fun _ => rfl) (fun _ => rfl)) ?_ | refine zg rfl rfl (zU rfl rfl (fun _ => rfl) (fun h => absurd h (by decide))) ?_ | refine zg rfl rfl (zU rfl rfl (fun h => absurd h (by decide)) (fun _ => rfl)) ?_
 first | refine zg rfl rfl (zi rfl rfl) ?_ | refine zg rfl rfl (zq rfl rfl) ?_ | refine zg rfl rfl (zI rfl rfl) ?_ | refine zg rfl rfl (zM rfl rfl) ?_
 first | refine zk rfl rfl rfl (fun hg => zi rfl rfl) ?_ | refine zk rfl rfl rfl (fun hg => zq rfl rfl) ?_ | refine zk rfl rfl rfl (fun hg => zI rfl rfl) ?_ | refine zk rfl rfl rfl (fun hg => zM rfl rfl) ?_ | refine zk (x := .pub (.tup [])) rfl rfl rfl (fun hg => absurd hg (by decide)) ?_
 first | refine zk rfl rfl rfl (fun hg => zy (av := [_]) rfl ⟨(by first | exact (if_pos hg) | exact rfl), trivial⟩ (zxv ts hb)) ?_ | refine zk rfl rfl rfl (fun hg => zy (av := [_]) rfl ⟨(by first | exact rfl | exact rfl), trivial⟩ (zxv ts hb)) ?_ | refine zk (x := .pub (.tup [])) rfl rfl rfl (fun hg => absurd hg (by decide)) ?_
 first | refine zk rfl rfl rfl (fun hg => je rfl (by first | exact rfl | exact if_pos hg)) ?_ | refine zk rfl rfl rfl (fun hg => je rfl rfl) ?_ | refine zk (x := .pub (.tup [])) rfl rfl rfl (fun hg => absurd hg (by decide)) ?_
 first | refine zg rfl rfl (qI rfl rfl rfl rfl) ?_ | refine zg rfl rfl (qU rfl rfl rfl rfl) ?_ | refine zg rfl rfl (zU rfl rfl (fun _ => rfl) (fun _ => rfl)) ?_ | refine zg rfl rfl (zU rfl rfl (fun _ => rfl) (fun h => absurd h (by decide))) ?_ | refine zg rfl rfl (zU rfl rfl (fun h => absurd h (by decide)) (fun _ => rfl)) ?_
 refine zo (zf (zx rfl (fun h0 => ?_) (fun h0 => ?_)))
 ·
  exfalso; simp [eBk, zO] at h0; omega
 ·
  refine zC (zf (zl (zh ?_)))
  first | refine zg rfl rfl (zZ rfl rfl wH (by exact zLb rfl)) ?_ | refine zg rfl rfl (qN (cs := [_, _, _]) rfl rfl rfl rfl rfl (by exact zLb rfl) rfl wH) ?_ | refine zg rfl rfl (qf rfl rfl rfl rfl rfl (by exact zLb rfl) rfl wH) ?_
  first | refine zg rfl rfl (zi rfl rfl) ?_ | refine zg rfl rfl (zq rfl rfl) ?_ | refine zg rfl rfl (zI rfl rfl) ?_ | refine zg rfl rfl (zM rfl rfl) ?_
  first | refine zg rfl rfl (zi rfl rfl) ?_ | refine zg rfl rfl (zq rfl rfl) ?_ | refine zg rfl rfl (zI rfl rfl) ?_ | refine zg rfl rfl (zM rfl rfl) ?_
  refine zg rfl rfl (zy (av := [_, _, _]) rfl ⟨rfl, rfl, rfl, trivial⟩ c70) ?_
  first | refine zg rfl rfl (zi rfl rfl) ?_ | refine zg rfl rfl (zq rfl rfl) ?_ | refine zg rfl rfl (zI rfl rfl) ?_ | refine zg rfl rfl (zM rfl rfl) ?_
  refine zg rfl rfl (zN rfl rfl rfl) (zg rfl rfl (zN rfl rfl rfl) ?_)
  first | refine zg rfl rfl (zn rfl rfl) ?_ | refine zg rfl rfl (zW rfl rfl) ?_ | refine zg rfl rfl (qo rfl rfl) ?_ | refine zg rfl rfl (qV rfl rfl) ?_
  first | refine zg rfl rfl (zn rfl rfl) ?_ | refine zg rfl rfl (zW rfl rfl) ?_ | refine zg rfl rfl (qo rfl rfl) ?_ | refine zg rfl rfl (qV rfl rfl) ?_
  refine zo (zf (zl (zh ?_)))
  first | refine zg rfl rfl (zZ rfl rfl wH (by exact zLb rfl)) ?_ | refine zg rfl rfl (qN (cs := [_, _, _]) rfl rfl rfl rfl rfl (by exact zLb rfl) rfl wH) ?_ | refine zg rfl rfl (qf rfl rfl rfl rfl rfl (by exact zLb rfl) rfl wH) ?_
  first | refine zg rfl rfl (zi rfl rfl) ?_ | refine zg rfl rfl (zq rfl rfl) ?_ | refine zg rfl rfl (zI rfl rfl) ?_ | refine zg rfl rfl (zM rfl rfl) ?_
  first | refine zg rfl rfl (zi rfl rfl) ?_ | refine zg rfl rfl (zq rfl rfl) ?_ | refine zg rfl rfl (zI rfl rfl) ?_ | refine zg rfl rfl (zM rfl rfl) ?_
  refine zg rfl rfl (zy (av := [_, _, _]) rfl ⟨rfl, rfl, rfl, trivial⟩ c71) ?_
  first | refine zg rfl rfl (zi rfl rfl) ?_ | refine zg rfl rfl (zq rfl rfl) ?_ | refine zg rfl rfl (zI rfl rfl) ?_ | refine zg rfl rfl (zM rfl rfl) ?_
  refine zg rfl rfl (zN rfl rfl rfl) (zg rfl rfl (zN rfl rfl rfl) ?_)
  first | refine zg rfl rfl (zn rfl rfl) ?_ | refine zg rfl rfl (zW rfl rfl) ?_ | refine zg rfl rfl (qo rfl rfl) ?_ | refine zg rfl rfl (qV rfl rfl) ?_
  first | refine zg rfl rfl (zn rfl rfl) ?_ | refine zg rfl rfl (zW rfl rfl) ?_ | refine zg rfl rfl (qo rfl rfl) ?_ | refine zg rfl rfl (qV rfl rfl) ?_
  refine zo (zf (zl (zh ?_)))
  first | refine zg rfl rfl (zZ rfl rfl wH (by exact zLb rfl)) ?_ | refine zg rfl rfl (qN (cs := [_, _, _]) rfl rfl rfl rfl rfl (by exact zLb rfl) rfl wH) ?_ | refine zg rfl rfl (qf rfl rfl rfl rfl rfl (by exact zLb rfl) rfl wH) ?_
  refine zg rfl rfl (zy (av := [_]) rfl ⟨rfl, trivial⟩ (f31 c hcs)) ?_
  first | refine zg rfl rfl (zi rfl rfl) ?_ | refine zg rfl rfl (zq rfl rfl) ?_ | refine zg rfl rfl (zI rfl rfl) ?_ | refine zg rfl rfl (zM rfl rfl) ?_
  first | refine zk rfl rfl rfl (fun hg => zi rfl rfl) ?_ | refine zk rfl rfl rfl (fun hg => zq rfl rfl) ?_ | refine zk rfl rfl rfl (fun hg => zI rfl rfl) ?_ | refine zk rfl rfl rfl (fun hg => zM rfl rfl) ?_ | refine zk (x := .pub (.tup [])) rfl rfl rfl (fun hg => absurd hg (by decide)) ?_
  first | refine zk rfl rfl rfl (fun hg => zy (av := [_]) rfl ⟨(by first | exact (if_pos hg) | exact rfl), trivial⟩ (f47 bk (by omega) hw)) ?_ | refine zk rfl rfl rfl (fun hg => zy (av := [_]) rfl ⟨(by first | exact rfl | exact rfl), trivial⟩ (f47 bk (by omega) hw)) ?_ | refine zk (x := .pub (.tup [])) rfl rfl rfl (fun hg => absurd hg (by decide)) ?_
  first | refine zg rfl rfl (qI rfl rfl rfl rfl) ?_ | refine zg rfl rfl (qU rfl rfl rfl rfl) ?_ | refine zg rfl rfl (zU rfl rfl (fun _ => rfl) (fun _ => rfl)) ?_ | refine zg rfl rfl (zU rfl rfl (fun _ => rfl) (fun h => absurd h (by decide))) ?_ | refine zg rfl rfl (zU rfl rfl (fun h => absurd h (by decide)) (fun _ => rfl)) ?_
  first | refine zg rfl rfl (zn rfl rfl) ?_ | refine zg rfl rfl (zW rfl rfl) ?_ | refine zg rfl rfl (qo rfl rfl) ?_ | refine zg rfl rfl (qV rfl rfl) ?_
  refine zo (zf (zl (zl (zh ?_))))
  first | refine zg rfl rfl (zi rfl rfl) ?_ | refine zg rfl rfl (zq rfl rfl) ?_ | refine zg rfl rfl (zI rfl rfl) ?_ | refine zg rfl rfl (zM rfl rfl) ?_
  refine zg rfl rfl (je rfl rfl) ?_
  first | refine zg rfl rfl (zi rfl rfl) ?_ | refine zg rfl rfl (zq rfl rfl) ?_ | refine zg rfl rfl (zI rfl rfl) ?_ | refine zg rfl rfl (zM rfl rfl) ?_
  first | refine zk rfl rfl rfl (fun hg => zZ rfl rfl wH (by exact zLb rfl)) ?_ | refine zk rfl rfl rfl (fun hg => qN (cs := [_, _, _]) rfl rfl rfl rfl rfl (by exact zLb rfl) rfl wH) ?_ | refine zk rfl rfl rfl (fun hg => qf rfl rfl rfl rfl rfl (by exact zLb rfl) rfl wH) ?_ | refine zk (x := .pub (.tup [])) rfl rfl rfl (fun hg => absurd hg (by decide)) ?_
  first | refine zk rfl rfl rfl (fun hg => zi rfl rfl) ?_ | refine zk rfl rfl rfl (fun hg => zq rfl rfl) ?_ | refine zk rfl rfl rfl (fun hg => zI rfl rfl) ?_ | refine zk rfl rfl rfl (fun hg => zM rfl rfl) ?_ | refine zk (x := .pub (.tup [])) rfl rfl rfl (fun hg => absurd hg (by decide)) ?_
  first | refine zk rfl rfl rfl (fun hg => zy (av := [_, _]) rfl ⟨(by first | exact (if_pos hg) | exact rfl), (by first | exact (if_pos hg) | exact rfl), trivial⟩ (f32 c ms (by omega))) ?_ | refine zk rfl rfl rfl (fun hg => zy (av := [_, _]) rfl ⟨(by first | exact rfl | exact rfl), (by first | exact rfl | exact rfl), trivial⟩ (f32 c ms (by omega))) ?_ | refine zk (x := .pub (.tup [])) rfl rfl rfl (fun hg => absurd hg (by decide)) ?_
  first | refine zk rfl rfl rfl (fun hg => je rfl (by first | exact rfl | exact if_pos hg)) ?_ | refine zk rfl rfl rfl (fun hg => je rfl rfl) ?_ | refine zk (x := .pub (.tup [])) rfl rfl rfl (fun hg => absurd hg (by decide)) ?_
  first | refine zg rfl rfl (qI rfl rfl rfl rfl) ?_ | refine zg rfl rfl (qU rfl rfl rfl rfl) ?_ | refine zg rfl rfl (zU rfl rfl (fun _ => rfl) (fun _ => rfl)) ?_ | refine zg rfl rfl (zU rfl rfl (fun _ => rfl) (fun h => absurd h (by decide))) ?_ | refine zg rfl rfl (zU rfl rfl (fun h => absurd h (by decide)) (fun _ => rfl)) ?_
  refine zo (zf (zx rfl (fun h1 => ?_) (fun h1 => ?_)))
  ·
   have ho2 : o = false := by cases hcb : jA c <;> cases hbb : zuB bk <;> cases hmm : wS c ms <;> simp_all
   rw [ho2] at hP he
   simp only [Bool.false_eq_true, if_false] at hP he
   subst hP
   subst he
   refine zl (zh ?_)
   first | refine zg rfl rfl (zi rfl rfl) ?_ | refine zg rfl rfl (zq rfl rfl) ?_ | refine zg rfl rfl (zI rfl rfl) ?_ | refine zg rfl rfl (zM rfl rfl) ?_
   refine zg rfl rfl (vg rfl rfl rfl) ?_
   first | refine zg rfl rfl (zi rfl rfl) ?_ | refine zg rfl rfl (zq rfl rfl) ?_ | refine zg rfl rfl (zI rfl rfl) ?_ | refine zg rfl rfl (zM rfl rfl) ?_
   first | refine zk rfl rfl rfl (fun hg => zi rfl rfl) ?_ | refine zk rfl rfl rfl (fun hg => zq rfl rfl) ?_ | refine zk rfl rfl rfl (fun hg => zI rfl rfl) ?_ | refine zk rfl rfl rfl (fun hg => zM rfl rfl) ?_ | refine zk (x := .pub (.tup [])) rfl rfl rfl (fun hg => absurd hg (by decide)) ?_
   first | refine zk rfl rfl rfl (fun hg => zuz rfl (by first | exact rfl | exact if_pos hg) Tryz.underlying34) ?_ | refine zk rfl rfl rfl (fun hg => zuz rfl rfl Tryz.underlying34) ?_ | refine zk (x := .pub (.tup [])) rfl rfl rfl (fun hg => absurd hg (by decide)) ?_
   first | refine zk rfl rfl rfl (fun hg => vg rfl (by first | exact rfl | exact if_pos hg) rfl) ?_ | refine zk rfl rfl rfl (fun hg => vg rfl rfl rfl) ?_ | refine zk (x := .pub (.tup [])) rfl rfl rfl (fun hg => absurd hg (by decide)) ?_
   first | refine zg rfl rfl (qI rfl rfl rfl rfl) ?_ | refine zg rfl rfl (qU rfl rfl rfl rfl) ?_ | refine zg rfl rfl (zU rfl rfl (fun _ => rfl) (fun _ => rfl)) ?_ | refine zg rfl rfl (zU rfl rfl (fun _ => rfl) (fun h => absurd h (by decide))) ?_ | refine zg rfl rfl (zU rfl rfl (fun h => absurd h (by decide)) (fun _ => rfl)) ?_
   refine zo (zf (zx rfl (fun h2 => ?_) (fun h2 => ?_)))
   ·
    exfalso; simp at h2
   ·
    refine zC (zf (zl (zh ?_)))
    first | refine zg rfl rfl (zn rfl rfl) ?_ | refine zg rfl rfl (zW rfl rfl) ?_ | refine zg rfl rfl (qo rfl rfl) ?_ | refine zg rfl rfl (qV rfl rfl) ?_
    refine zo (zf (zl (zh ?_)))
    first | refine zg rfl rfl (zn rfl rfl) ?_ | refine zg rfl rfl (zW rfl rfl) ?_ | refine zg rfl rfl (qo rfl rfl) ?_ | refine zg rfl rfl (qV rfl rfl) ?_
    first | refine zg rfl rfl (zn rfl rfl) ?_ | refine zg rfl rfl (zW rfl rfl) ?_ | refine zg rfl rfl (qo rfl rfl) ?_ | refine zg rfl rfl (qV rfl rfl) ?_
    refine zo (zf (zl (zl (zh ?_))))
    first | refine zg rfl rfl (zi rfl rfl) ?_ | refine zg rfl rfl (zq rfl rfl) ?_ | refine zg rfl rfl (zI rfl rfl) ?_ | refine zg rfl rfl (zM rfl rfl) ?_
    refine zg rfl rfl (zuz rfl rfl Tryz.underlying34) (zg rfl rfl (qR rfl rfl rfl) (zo (zf (zx rfl (fun h4 => ?_) (fun h4 => ?_)))))
    ·
     exfalso; simp at h4; omega
    ·
     refine zl (zh ?_)
     first | refine zg rfl rfl (zi rfl rfl) ?_ | refine zg rfl rfl (zq rfl rfl) ?_ | refine zg rfl rfl (zI rfl rfl) ?_ | refine zg rfl rfl (zM rfl rfl) ?_
     refine zg rfl rfl (je rfl rfl) (zo (zf (zx rfl (fun h5 => ?_) (fun h5 => ?_))))
     ·
      exfalso; cases hcb : jA c <;> cases hbb : zuB bk <;> cases hmm : wS c ms <;> simp_all
     ·
      refine zl (zh ?_)
      first | refine zg rfl rfl (zZ rfl rfl wH (by exact zLb rfl)) ?_ | refine zg rfl rfl (qN (cs := [_, _, _]) rfl rfl rfl rfl rfl (by exact zLb rfl) rfl wH) ?_ | refine zg rfl rfl (qf rfl rfl rfl rfl rfl (by exact zLb rfl) rfl wH) ?_
      first | refine zg rfl rfl (zi rfl rfl) ?_ | refine zg rfl rfl (zq rfl rfl) ?_ | refine zg rfl rfl (zI rfl rfl) ?_ | refine zg rfl rfl (zM rfl rfl) ?_
      first | refine zg rfl rfl (zi rfl rfl) ?_ | refine zg rfl rfl (zq rfl rfl) ?_ | refine zg rfl rfl (zI rfl rfl) ?_ | refine zg rfl rfl (zM rfl rfl) ?_
      refine zg rfl rfl (zy (av := [_, _, _]) rfl ⟨rfl, rfl, rfl, trivial⟩ c73) ?_
      first | refine zg rfl rfl (zi rfl rfl) ?_ | refine zg rfl rfl (zq rfl rfl) ?_ | refine zg rfl rfl (zI rfl rfl) ?_ | refine zg rfl rfl (zM rfl rfl) ?_
      refine zg rfl rfl (zN rfl rfl rfl) (zg rfl rfl (zN rfl rfl rfl) ?_)
      first | refine zg rfl rfl (zn rfl rfl) ?_ | refine zg rfl rfl (zW rfl rfl) ?_ | refine zg rfl rfl (qo rfl rfl) ?_ | refine zg rfl rfl (qV rfl rfl) ?_
      first | refine zg rfl rfl (zn rfl rfl) ?_ | refine zg rfl rfl (zW rfl rfl) ?_ | refine zg rfl rfl (qo rfl rfl) ?_ | refine zg rfl rfl (qV rfl rfl) ?_
      refine zo (zf (zl (zh ?_)))
      first | refine zg rfl rfl (zi rfl rfl) ?_ | refine zg rfl rfl (zq rfl rfl) ?_ | refine zg rfl rfl (zI rfl rfl) ?_ | refine zg rfl rfl (zM rfl rfl) ?_
      refine zg rfl rfl (je rfl rfl) (zo (zf (zx rfl (fun h6 => ?_) (fun h6 => ?_))))
      ·
       have hb2 : b2 = false := by simpa using h6
       have hx2 := hno hb2
       obtain ⟨rfl, rfl⟩ := hx2
       refine zh ?_
       first | refine zg rfl rfl (zn rfl rfl) ?_ | refine zg rfl rfl (zW rfl rfl) ?_ | refine zg rfl rfl (qo rfl rfl) ?_ | refine zg rfl rfl (qV rfl rfl) ?_
       refine zo (zf (zl (zl (zh ?_))))
       first | refine zg rfl rfl (zi rfl rfl) ?_ | refine zg rfl rfl (zq rfl rfl) ?_ | refine zg rfl rfl (zI rfl rfl) ?_ | refine zg rfl rfl (zM rfl rfl) ?_
       refine zg rfl rfl (vg rfl rfl rfl) (zo (zf (zx rfl (fun h7 => ?_) (fun h7 => ?_))))
       ·
        refine zl (zh ?_)
        first | refine zg rfl rfl (zi rfl rfl) ?_ | refine zg rfl rfl (zq rfl rfl) ?_ | refine zg rfl rfl (zI rfl rfl) ?_ | refine zg rfl rfl (zM rfl rfl) ?_
        first | refine zg rfl rfl (zi rfl rfl) ?_ | refine zg rfl rfl (zq rfl rfl) ?_ | refine zg rfl rfl (zI rfl rfl) ?_ | refine zg rfl rfl (zM rfl rfl) ?_
        refine zg rfl rfl (qJ rfl rfl rfl) ?_
        first | refine zg rfl rfl (zi rfl rfl) ?_ | refine zg rfl rfl (zq rfl rfl) ?_ | refine zg rfl rfl (zI rfl rfl) ?_ | refine zg rfl rfl (zM rfl rfl) ?_
        first | refine zk rfl rfl rfl (fun hg => zi rfl rfl) ?_ | refine zk rfl rfl rfl (fun hg => zq rfl rfl) ?_ | refine zk rfl rfl rfl (fun hg => zI rfl rfl) ?_ | refine zk rfl rfl rfl (fun hg => zM rfl rfl) ?_ | refine zk (x := .pub (.tup [])) rfl rfl rfl (fun hg => absurd hg (by decide)) ?_
        first | refine zk rfl rfl rfl (fun hg => zuz rfl (by first | exact rfl | exact if_pos hg) Tryz.underlying23) ?_ | refine zk rfl rfl rfl (fun hg => zuz rfl rfl Tryz.underlying23) ?_ | refine zk (x := .pub (.tup [])) rfl rfl rfl (fun hg => absurd hg (by decide)) ?_
        first | refine zk rfl rfl rfl (fun hg => qJ rfl (by first | exact rfl | exact if_pos hg) rfl) ?_ | refine zk rfl rfl rfl (fun hg => qJ rfl rfl rfl) ?_ | refine zk (x := .pub (.tup [])) rfl rfl rfl (fun hg => absurd hg (by decide)) ?_
        first | refine zg rfl rfl (qI rfl rfl rfl rfl) ?_ | refine zg rfl rfl (qU rfl rfl rfl rfl) ?_ | refine zg rfl rfl (zU rfl rfl (fun _ => rfl) (fun _ => rfl)) ?_ | refine zg rfl rfl (zU rfl rfl (fun _ => rfl) (fun h => absurd h (by decide))) ?_ | refine zg rfl rfl (zU rfl rfl (fun h => absurd h (by decide)) (fun _ => rfl)) ?_
        first | refine zg rfl rfl (zi rfl rfl) ?_ | refine zg rfl rfl (zq rfl rfl) ?_ | refine zg rfl rfl (zI rfl rfl) ?_ | refine zg rfl rfl (zM rfl rfl) ?_
        first | refine zk rfl rfl rfl (fun hg => zy (av := []) rfl trivial hkn) ?_ | refine zk (x := .pub (.tup [])) rfl rfl rfl (fun hg => absurd hg (by decide)) ?_
        first | refine zg rfl rfl (qI rfl rfl rfl rfl) ?_ | refine zg rfl rfl (qU rfl rfl rfl rfl) ?_ | refine zg rfl rfl (zU rfl rfl (fun _ => rfl) (fun _ => rfl)) ?_ | refine zg rfl rfl (zU rfl rfl (fun _ => rfl) (fun h => absurd h (by decide))) ?_ | refine zg rfl rfl (zU rfl rfl (fun h => absurd h (by decide)) (fun _ => rfl)) ?_
        first | refine zg rfl rfl (zn rfl rfl) ?_ | refine zg rfl rfl (zW rfl rfl) ?_ | refine zg rfl rfl (qo rfl rfl) ?_ | refine zg rfl rfl (qV rfl rfl) ?_
        refine zo (zf (zP (zQ ?_)))
        exact ⟨.inr rfl, (by first | exact AVle.refl _ | (exfalso; simp at h7; done) | exact AVle.of (by simp [(hyes hb2).2]))⟩
       ·
        refine zC (zf (zl (zh ?_)))
        first | refine zg rfl rfl (zi rfl rfl) ?_ | refine zg rfl rfl (zq rfl rfl) ?_ | refine zg rfl rfl (zI rfl rfl) ?_ | refine zg rfl rfl (zM rfl rfl) ?_
        refine zg rfl rfl (qJ rfl rfl rfl) ?_
        first | refine zg rfl rfl (zi rfl rfl) ?_ | refine zg rfl rfl (zq rfl rfl) ?_ | refine zg rfl rfl (zI rfl rfl) ?_ | refine zg rfl rfl (zM rfl rfl) ?_
        first | refine zk rfl rfl rfl (fun hg => zi rfl rfl) ?_ | refine zk rfl rfl rfl (fun hg => zq rfl rfl) ?_ | refine zk rfl rfl rfl (fun hg => zI rfl rfl) ?_ | refine zk rfl rfl rfl (fun hg => zM rfl rfl) ?_ | refine zk (x := .pub (.tup [])) rfl rfl rfl (fun hg => absurd hg (by decide)) ?_
        first | refine zk rfl rfl rfl (fun hg => zi rfl rfl) ?_ | refine zk rfl rfl rfl (fun hg => zq rfl rfl) ?_ | refine zk rfl rfl rfl (fun hg => zI rfl rfl) ?_ | refine zk rfl rfl rfl (fun hg => zM rfl rfl) ?_ | refine zk (x := .pub (.tup [])) rfl rfl rfl (fun hg => absurd hg (by decide)) ?_
        first | refine zk rfl rfl rfl (fun hg => zy (av := [_, _]) rfl ⟨(by first | exact (if_pos hg) | exact rfl), (by first | exact (if_pos hg) | exact rfl), trivial⟩ (zxk _ A2 (by omega) rfl)) ?_ | refine zk rfl rfl rfl (fun hg => zy (av := [_, _]) rfl ⟨(by first | exact rfl | exact rfl), (by first | exact rfl | exact rfl), trivial⟩ (zxk _ A2 (by omega) rfl)) ?_ | refine zk (x := .pub (.tup [])) rfl rfl rfl (fun hg => absurd hg (by decide)) ?_
        first | refine zg rfl rfl (qI rfl rfl rfl rfl) ?_ | refine zg rfl rfl (qU rfl rfl rfl rfl) ?_ | refine zg rfl rfl (zU rfl rfl (fun _ => rfl) (fun _ => rfl)) ?_ | refine zg rfl rfl (zU rfl rfl (fun _ => rfl) (fun h => absurd h (by decide))) ?_ | refine zg rfl rfl (zU rfl rfl (fun h => absurd h (by decide)) (fun _ => rfl)) ?_
        first | refine zg rfl rfl (zi rfl rfl) ?_ | refine zg rfl rfl (zq rfl rfl) ?_ | refine zg rfl rfl (zI rfl rfl) ?_ | refine zg rfl rfl (zM rfl rfl) ?_
        first | refine zk rfl rfl rfl (fun hg => zy (av := []) rfl trivial hkn) ?_ | refine zk (x := .pub (.tup [])) rfl rfl rfl (fun hg => absurd hg (by decide)) ?_
        first | refine zg rfl rfl (qI rfl rfl rfl rfl) ?_ | refine zg rfl rfl (qU rfl rfl rfl rfl) ?_ | refine zg rfl rfl (zU rfl rfl (fun _ => rfl) (fun _ => rfl)) ?_ | refine zg rfl rfl (zU rfl rfl (fun _ => rfl) (fun h => absurd h (by decide))) ?_ | refine zg rfl rfl (zU rfl rfl (fun h => absurd h (by decide)) (fun _ => rfl)) ?_
        first | refine zg rfl rfl (zn rfl rfl) ?_ | refine zg rfl rfl (zW rfl rfl) ?_ | refine zg rfl rfl (qo rfl rfl) ?_ | refine zg rfl rfl (qV rfl rfl) ?_
        refine zo (zf (zP ?_))
        exact ⟨.inr rfl, (by first | exact AVle.refl _ | (exfalso; simp at h7; done) | exact AVle.of (by simp [(hyes hb2).2]))⟩
      ·
       have hb2 : b2 = true := by simpa using h6
       have hx2 := (hyes hb2).1
       subst hx2
       refine zC (zf (zl (zl (zh ?_))))
       first | refine zg rfl rfl (zi rfl rfl) ?_ | refine zg rfl rfl (zq rfl rfl) ?_ | refine zg rfl rfl (zI rfl rfl) ?_ | refine zg rfl rfl (zM rfl rfl) ?_
       refine zg rfl rfl (vg rfl rfl rfl) (zo (zf (zx rfl (fun h7 => ?_) (fun h7 => ?_))))
       ·
        refine zl (zh ?_)
        first | refine zg rfl rfl (zi rfl rfl) ?_ | refine zg rfl rfl (zq rfl rfl) ?_ | refine zg rfl rfl (zI rfl rfl) ?_ | refine zg rfl rfl (zM rfl rfl) ?_
        first | refine zg rfl rfl (zi rfl rfl) ?_ | refine zg rfl rfl (zq rfl rfl) ?_ | refine zg rfl rfl (zI rfl rfl) ?_ | refine zg rfl rfl (zM rfl rfl) ?_
        refine zg rfl rfl (qJ rfl rfl rfl) ?_
        first | refine zg rfl rfl (zi rfl rfl) ?_ | refine zg rfl rfl (zq rfl rfl) ?_ | refine zg rfl rfl (zI rfl rfl) ?_ | refine zg rfl rfl (zM rfl rfl) ?_
        first | refine zk rfl rfl rfl (fun hg => zi rfl rfl) ?_ | refine zk rfl rfl rfl (fun hg => zq rfl rfl) ?_ | refine zk rfl rfl rfl (fun hg => zI rfl rfl) ?_ | refine zk rfl rfl rfl (fun hg => zM rfl rfl) ?_ | refine zk (x := .pub (.tup [])) rfl rfl rfl (fun hg => absurd hg (by decide)) ?_
        first | refine zk rfl rfl rfl (fun hg => zuz rfl (by first | exact rfl | exact if_pos hg) Tryz.underlying23) ?_ | refine zk rfl rfl rfl (fun hg => zuz rfl rfl Tryz.underlying23) ?_ | refine zk (x := .pub (.tup [])) rfl rfl rfl (fun hg => absurd hg (by decide)) ?_
        first | refine zk rfl rfl rfl (fun hg => qJ rfl (by first | exact rfl | exact if_pos hg) rfl) ?_ | refine zk rfl rfl rfl (fun hg => qJ rfl rfl rfl) ?_ | refine zk (x := .pub (.tup [])) rfl rfl rfl (fun hg => absurd hg (by decide)) ?_
        first | refine zg rfl rfl (qI rfl rfl rfl rfl) ?_ | refine zg rfl rfl (qU rfl rfl rfl rfl) ?_ | refine zg rfl rfl (zU rfl rfl (fun _ => rfl) (fun _ => rfl)) ?_ | refine zg rfl rfl (zU rfl rfl (fun _ => rfl) (fun h => absurd h (by decide))) ?_ | refine zg rfl rfl (zU rfl rfl (fun h => absurd h (by decide)) (fun _ => rfl)) ?_
        first | refine zg rfl rfl (zi rfl rfl) ?_ | refine zg rfl rfl (zq rfl rfl) ?_ | refine zg rfl rfl (zI rfl rfl) ?_ | refine zg rfl rfl (zM rfl rfl) ?_
        first | refine zk rfl rfl rfl (fun hg => zy (av := []) rfl trivial hkn) ?_ | refine zk (x := .pub (.tup [])) rfl rfl rfl (fun hg => absurd hg (by decide)) ?_
        first | refine zg rfl rfl (qI rfl rfl rfl rfl) ?_ | refine zg rfl rfl (qU rfl rfl rfl rfl) ?_ | refine zg rfl rfl (zU rfl rfl (fun _ => rfl) (fun _ => rfl)) ?_ | refine zg rfl rfl (zU rfl rfl (fun _ => rfl) (fun h => absurd h (by decide))) ?_ | refine zg rfl rfl (zU rfl rfl (fun h => absurd h (by decide)) (fun _ => rfl)) ?_
        first | refine zg rfl rfl (zn rfl rfl) ?_ | refine zg rfl rfl (zW rfl rfl) ?_ | refine zg rfl rfl (qo rfl rfl) ?_ | refine zg rfl rfl (qV rfl rfl) ?_
        refine zo (zf (zP (zQ ?_)))
        exact ⟨.inr rfl, (by first | exact AVle.refl _ | (exfalso; simp at h7; done) | exact AVle.of (by simp [(hyes hb2).2]))⟩
       ·
        refine zC (zf (zl (zh ?_)))
        first | refine zg rfl rfl (zi rfl rfl) ?_ | refine zg rfl rfl (zq rfl rfl) ?_ | refine zg rfl rfl (zI rfl rfl) ?_ | refine zg rfl rfl (zM rfl rfl) ?_
        refine zg rfl rfl (qJ rfl rfl rfl) ?_
        first | refine zg rfl rfl (zi rfl rfl) ?_ | refine zg rfl rfl (zq rfl rfl) ?_ | refine zg rfl rfl (zI rfl rfl) ?_ | refine zg rfl rfl (zM rfl rfl) ?_
        first | refine zk rfl rfl rfl (fun hg => zi rfl rfl) ?_ | refine zk rfl rfl rfl (fun hg => zq rfl rfl) ?_ | refine zk rfl rfl rfl (fun hg => zI rfl rfl) ?_ | refine zk rfl rfl rfl (fun hg => zM rfl rfl) ?_ | refine zk (x := .pub (.tup [])) rfl rfl rfl (fun hg => absurd hg (by decide)) ?_
        first | refine zk rfl rfl rfl (fun hg => zi rfl rfl) ?_ | refine zk rfl rfl rfl (fun hg => zq rfl rfl) ?_ | refine zk rfl rfl rfl (fun hg => zI rfl rfl) ?_ | refine zk rfl rfl rfl (fun hg => zM rfl rfl) ?_ | refine zk (x := .pub (.tup [])) rfl rfl rfl (fun hg => absurd hg (by decide)) ?_
        first | refine zk rfl rfl rfl (fun hg => zy (av := [_, _]) rfl ⟨(by first | exact (if_pos hg) | exact rfl), (by first | exact (if_pos hg) | exact rfl), trivial⟩ (zxk _ A2 (by omega) rfl)) ?_ | refine zk rfl rfl rfl (fun hg => zy (av := [_, _]) rfl ⟨(by first | exact rfl | exact rfl), (by first | exact rfl | exact rfl), trivial⟩ (zxk _ A2 (by omega) rfl)) ?_ | refine zk (x := .pub (.tup [])) rfl rfl rfl (fun hg => absurd hg (by decide)) ?_
        first | refine zg rfl rfl (qI rfl rfl rfl rfl) ?_ | refine zg rfl rfl (qU rfl rfl rfl rfl) ?_ | refine zg rfl rfl (zU rfl rfl (fun _ => rfl) (fun _ => rfl)) ?_ | refine zg rfl rfl (zU rfl rfl (fun _ => rfl) (fun h => absurd h (by decide))) ?_ | refine zg rfl rfl (zU rfl rfl (fun h => absurd h (by decide)) (fun _ => rfl)) ?_
        first | refine zg rfl rfl (zi rfl rfl) ?_ | refine zg rfl rfl (zq rfl rfl) ?_ | refine zg rfl rfl (zI rfl rfl) ?_ | refine zg rfl rfl (zM rfl rfl) ?_
        first | refine zk rfl rfl rfl (fun hg => zy (av := []) rfl trivial hkn) ?_ | refine zk (x := .pub (.tup [])) rfl rfl rfl (fun hg => absurd hg (by decide)) ?_
        first | refine zg rfl rfl (qI rfl rfl rfl rfl) ?_ | refine zg rfl rfl (qU rfl rfl rfl rfl) ?_ | refine zg rfl rfl (zU rfl rfl (fun _ => rfl) (fun _ => rfl)) ?_ | refine zg rfl rfl (zU rfl rfl (fun _ => rfl) (fun h => absurd h (by decide))) ?_ | refine zg rfl rfl (zU rfl rfl (fun h => absurd h (by decide)) (fun _ => rfl)) ?_
        first | refine zg rfl rfl (zn rfl rfl) ?_ | refine zg rfl rfl (zW rfl rfl) ?_ | refine zg rfl rfl (qo rfl rfl) ?_ | refine zg rfl rfl (qV rfl rfl) ?_
        refine zo (zf (zP ?_))
        exact ⟨.inr rfl, (by first | exact AVle.refl _ | (exfalso; simp at h7; done) | exact AVle.of (by simp [(hyes hb2).2]))⟩
  ·
   have ho2 : o = true := by cases hcb : jA c <;> cases hbb : zuB bk <;> cases hmm : wS c ms <;> simp_all
   rw [ho2] at hP he
   simp only [if_true] at hP he
   subst hP
   subst he
   have hcc : jA c = true /\ wS c ms = true := by cases hcb : jA c <;> cases hbb : zuB bk <;> cases hmm : wS c ms <;> simp_all
   have hmb := zlx hcc.1 hcc.2
   refine zl (zh ?_)
   first | refine zg rfl rfl (zi rfl rfl) ?_ | refine zg rfl rfl (zq rfl rfl) ?_ | refine zg rfl rfl (zI rfl rfl) ?_ | refine zg rfl rfl (zM rfl rfl) ?_
   refine zg rfl rfl (vg rfl rfl rfl) ?_
   first | refine zg rfl rfl (zi rfl rfl) ?_ | refine zg rfl rfl (zq rfl rfl) ?_ | refine zg rfl rfl (zI rfl rfl) ?_ | refine zg rfl rfl (zM rfl rfl) ?_
   first | refine zk rfl rfl rfl (fun hg => zi rfl rfl) ?_ | refine zk rfl rfl rfl (fun hg => zq rfl rfl) ?_ | refine zk rfl rfl rfl (fun hg => zI rfl rfl) ?_ | refine zk rfl rfl rfl (fun hg => zM rfl rfl) ?_ | refine zk (x := .pub (.tup [])) rfl rfl rfl (fun hg => absurd hg (by decide)) ?_
   first | refine zk rfl rfl rfl (fun hg => zi rfl rfl) ?_ | refine zk rfl rfl rfl (fun hg => zq rfl rfl) ?_ | refine zk rfl rfl rfl (fun hg => zI rfl rfl) ?_ | refine zk rfl rfl rfl (fun hg => zM rfl rfl) ?_ | refine zk (x := .pub (.tup [])) rfl rfl rfl (fun hg => absurd hg (by decide)) ?_
   first | refine zk rfl rfl rfl (fun hg => zi rfl rfl) ?_ | refine zk rfl rfl rfl (fun hg => zq rfl rfl) ?_ | refine zk rfl rfl rfl (fun hg => zI rfl rfl) ?_ | refine zk rfl rfl rfl (fun hg => zM rfl rfl) ?_ | refine zk (x := .pub (.tup [])) rfl rfl rfl (fun hg => absurd hg (by decide)) ?_
   first | refine zk rfl rfl rfl (fun hg => zy (av := [_, _]) rfl ⟨(by first | exact (if_pos hg) | exact rfl), (by first | exact (if_pos hg) | exact rfl), trivial⟩ (f72 bk ms (by omega) hmb (by omega))) ?_ | refine zk rfl rfl rfl (fun hg => zy (av := [_, _]) rfl ⟨(by first | exact rfl | exact rfl), (by first | exact rfl | exact rfl), trivial⟩ (f72 bk ms (by omega) hmb (by omega))) ?_ | refine zk (x := .pub (.tup [])) rfl rfl rfl (fun hg => absurd hg (by decide)) ?_
   first | refine zk rfl rfl rfl (fun hg => zy (av := [_, _]) rfl ⟨(by first | exact (if_pos hg) | exact rfl), (by first | exact (if_pos hg) | exact rfl), trivial⟩ (zAd _ (zu0 bk ms) (by have := zvK (bk := bk) hm6; omega) rfl)) ?_ | refine zk rfl rfl rfl (fun hg => zy (av := [_, _]) rfl ⟨(by first | exact rfl | exact rfl), (by first | exact rfl | exact rfl), trivial⟩ (zAd _ (zu0 bk ms) (by have := zvK (bk := bk) hm6; omega) rfl)) ?_ | refine zk (x := .pub (.tup [])) rfl rfl rfl (fun hg => absurd hg (by decide)) ?_
   first | refine zk rfl rfl rfl (fun hg => je rfl (by first | exact rfl | exact if_pos hg)) ?_ | refine zk rfl rfl rfl (fun hg => je rfl rfl) ?_ | refine zk (x := .pub (.tup [])) rfl rfl rfl (fun hg => absurd hg (by decide)) ?_
   first | refine zg rfl rfl (qI rfl rfl rfl rfl) ?_ | refine zg rfl rfl (qU rfl rfl rfl rfl) ?_ | refine zg rfl rfl (zU rfl rfl (fun _ => rfl) (fun _ => rfl)) ?_ | refine zg rfl rfl (zU rfl rfl (fun _ => rfl) (fun h => absurd h (by decide))) ?_ | refine zg rfl rfl (zU rfl rfl (fun h => absurd h (by decide)) (fun _ => rfl)) ?_
   refine zo (zf (zx rfl (fun h3 => ?_) (fun h3 => ?_)))
   ·
    exfalso; simp at h3
   ·
    refine zC (zf (zl (zh ?_)))
    first | refine zg rfl rfl (zn rfl rfl) ?_ | refine zg rfl rfl (zW rfl rfl) ?_ | refine zg rfl rfl (qo rfl rfl) ?_ | refine zg rfl rfl (qV rfl rfl) ?_
    refine zo (zf (zl (zh ?_)))
    first | refine zg rfl rfl (zn rfl rfl) ?_ | refine zg rfl rfl (zW rfl rfl) ?_ | refine zg rfl rfl (qo rfl rfl) ?_ | refine zg rfl rfl (qV rfl rfl) ?_
    first | refine zg rfl rfl (zn rfl rfl) ?_ | refine zg rfl rfl (zW rfl rfl) ?_ | refine zg rfl rfl (qo rfl rfl) ?_ | refine zg rfl rfl (qV rfl rfl) ?_
    refine zo (zf (zl (zl (zh ?_))))
    first | refine zg rfl rfl (zi rfl rfl) ?_ | refine zg rfl rfl (zq rfl rfl) ?_ | refine zg rfl rfl (zI rfl rfl) ?_ | refine zg rfl rfl (zM rfl rfl) ?_
    refine zg rfl rfl (zuz rfl rfl Tryz.underlying34) (zg rfl rfl (qR rfl rfl rfl) (zo (zf (zx rfl (fun h4 => ?_) (fun h4 => ?_)))))
    ·
     exfalso; simp at h4; omega
    ·
     refine zl (zh ?_)
     first | refine zg rfl rfl (zi rfl rfl) ?_ | refine zg rfl rfl (zq rfl rfl) ?_ | refine zg rfl rfl (zI rfl rfl) ?_ | refine zg rfl rfl (zM rfl rfl) ?_
     refine zg rfl rfl (je rfl rfl) (zo (zf (zx rfl (fun h5 => ?_) (fun h5 => ?_))))
     ·
      exfalso; cases hcb : jA c <;> cases hbb : zuB bk <;> cases hmm : wS c ms <;> simp_all
     ·
      refine zl (zh ?_)
      first | refine zg rfl rfl (zZ rfl rfl wH (by exact zLb rfl)) ?_ | refine zg rfl rfl (qN (cs := [_, _, _]) rfl rfl rfl rfl rfl (by exact zLb rfl) rfl wH) ?_ | refine zg rfl rfl (qf rfl rfl rfl rfl rfl (by exact zLb rfl) rfl wH) ?_
      first | refine zg rfl rfl (zi rfl rfl) ?_ | refine zg rfl rfl (zq rfl rfl) ?_ | refine zg rfl rfl (zI rfl rfl) ?_ | refine zg rfl rfl (zM rfl rfl) ?_
      first | refine zg rfl rfl (zi rfl rfl) ?_ | refine zg rfl rfl (zq rfl rfl) ?_ | refine zg rfl rfl (zI rfl rfl) ?_ | refine zg rfl rfl (zM rfl rfl) ?_
      refine zg rfl rfl (zy (av := [_, _, _]) rfl ⟨rfl, rfl, rfl, trivial⟩ c73) ?_
      first | refine zg rfl rfl (zi rfl rfl) ?_ | refine zg rfl rfl (zq rfl rfl) ?_ | refine zg rfl rfl (zI rfl rfl) ?_ | refine zg rfl rfl (zM rfl rfl) ?_
      refine zg rfl rfl (zN rfl rfl rfl) (zg rfl rfl (zN rfl rfl rfl) ?_)
      first | refine zg rfl rfl (zn rfl rfl) ?_ | refine zg rfl rfl (zW rfl rfl) ?_ | refine zg rfl rfl (qo rfl rfl) ?_ | refine zg rfl rfl (qV rfl rfl) ?_
      first | refine zg rfl rfl (zn rfl rfl) ?_ | refine zg rfl rfl (zW rfl rfl) ?_ | refine zg rfl rfl (qo rfl rfl) ?_ | refine zg rfl rfl (qV rfl rfl) ?_
      refine zo (zf (zl (zh ?_)))
      first | refine zg rfl rfl (zi rfl rfl) ?_ | refine zg rfl rfl (zq rfl rfl) ?_ | refine zg rfl rfl (zI rfl rfl) ?_ | refine zg rfl rfl (zM rfl rfl) ?_
      refine zg rfl rfl (je rfl rfl) (zo (zf (zx rfl (fun h6 => ?_) (fun h6 => ?_))))
      ·
       have hb2 : b2 = false := by simpa using h6
       have hx2 := hno hb2
       obtain ⟨rfl, rfl⟩ := hx2
       refine zh ?_
       first | refine zg rfl rfl (zn rfl rfl) ?_ | refine zg rfl rfl (zW rfl rfl) ?_ | refine zg rfl rfl (qo rfl rfl) ?_ | refine zg rfl rfl (qV rfl rfl) ?_
       refine zo (zf (zl (zl (zh ?_))))
       first | refine zg rfl rfl (zi rfl rfl) ?_ | refine zg rfl rfl (zq rfl rfl) ?_ | refine zg rfl rfl (zI rfl rfl) ?_ | refine zg rfl rfl (zM rfl rfl) ?_
       refine zg rfl rfl (vg rfl rfl rfl) (zo (zf (zx rfl (fun h7 => ?_) (fun h7 => ?_))))
       ·
        refine zl (zh ?_)
        first | refine zg rfl rfl (zi rfl rfl) ?_ | refine zg rfl rfl (zq rfl rfl) ?_ | refine zg rfl rfl (zI rfl rfl) ?_ | refine zg rfl rfl (zM rfl rfl) ?_
        first | refine zg rfl rfl (zi rfl rfl) ?_ | refine zg rfl rfl (zq rfl rfl) ?_ | refine zg rfl rfl (zI rfl rfl) ?_ | refine zg rfl rfl (zM rfl rfl) ?_
        refine zg rfl rfl (qJ rfl rfl rfl) ?_
        first | refine zg rfl rfl (zi rfl rfl) ?_ | refine zg rfl rfl (zq rfl rfl) ?_ | refine zg rfl rfl (zI rfl rfl) ?_ | refine zg rfl rfl (zM rfl rfl) ?_
        first | refine zk rfl rfl rfl (fun hg => zi rfl rfl) ?_ | refine zk rfl rfl rfl (fun hg => zq rfl rfl) ?_ | refine zk rfl rfl rfl (fun hg => zI rfl rfl) ?_ | refine zk rfl rfl rfl (fun hg => zM rfl rfl) ?_ | refine zk (x := .pub (.tup [])) rfl rfl rfl (fun hg => absurd hg (by decide)) ?_
        first | refine zk rfl rfl rfl (fun hg => zuz rfl (by first | exact rfl | exact if_pos hg) Tryz.underlying23) ?_ | refine zk rfl rfl rfl (fun hg => zuz rfl rfl Tryz.underlying23) ?_ | refine zk (x := .pub (.tup [])) rfl rfl rfl (fun hg => absurd hg (by decide)) ?_
        first | refine zk rfl rfl rfl (fun hg => qJ rfl (by first | exact rfl | exact if_pos hg) rfl) ?_ | refine zk rfl rfl rfl (fun hg => qJ rfl rfl rfl) ?_ | refine zk (x := .pub (.tup [])) rfl rfl rfl (fun hg => absurd hg (by decide)) ?_
        first | refine zg rfl rfl (qI rfl rfl rfl rfl) ?_ | refine zg rfl rfl (qU rfl rfl rfl rfl) ?_ | refine zg rfl rfl (zU rfl rfl (fun _ => rfl) (fun _ => rfl)) ?_ | refine zg rfl rfl (zU rfl rfl (fun _ => rfl) (fun h => absurd h (by decide))) ?_ | refine zg rfl rfl (zU rfl rfl (fun h => absurd h (by decide)) (fun _ => rfl)) ?_
        first | refine zg rfl rfl (zi rfl rfl) ?_ | refine zg rfl rfl (zq rfl rfl) ?_ | refine zg rfl rfl (zI rfl rfl) ?_ | refine zg rfl rfl (zM rfl rfl) ?_
        first | refine zk rfl rfl rfl (fun hg => zy (av := []) rfl trivial hkn) ?_ | refine zk (x := .pub (.tup [])) rfl rfl rfl (fun hg => absurd hg (by decide)) ?_
        first | refine zg rfl rfl (qI rfl rfl rfl rfl) ?_ | refine zg rfl rfl (qU rfl rfl rfl rfl) ?_ | refine zg rfl rfl (zU rfl rfl (fun _ => rfl) (fun _ => rfl)) ?_ | refine zg rfl rfl (zU rfl rfl (fun _ => rfl) (fun h => absurd h (by decide))) ?_ | refine zg rfl rfl (zU rfl rfl (fun h => absurd h (by decide)) (fun _ => rfl)) ?_
        first | refine zg rfl rfl (zn rfl rfl) ?_ | refine zg rfl rfl (zW rfl rfl) ?_ | refine zg rfl rfl (qo rfl rfl) ?_ | refine zg rfl rfl (qV rfl rfl) ?_
        refine zo (zf (zP (zQ ?_)))
        exact ⟨.inr rfl, (by first | exact AVle.refl _ | (exfalso; simp at h7; done) | exact AVle.of (by simp [(hyes hb2).2]))⟩
       ·
        refine zC (zf (zl (zh ?_)))
        first | refine zg rfl rfl (zi rfl rfl) ?_ | refine zg rfl rfl (zq rfl rfl) ?_ | refine zg rfl rfl (zI rfl rfl) ?_ | refine zg rfl rfl (zM rfl rfl) ?_
        refine zg rfl rfl (qJ rfl rfl rfl) ?_
        first | refine zg rfl rfl (zi rfl rfl) ?_ | refine zg rfl rfl (zq rfl rfl) ?_ | refine zg rfl rfl (zI rfl rfl) ?_ | refine zg rfl rfl (zM rfl rfl) ?_
        first | refine zk rfl rfl rfl (fun hg => zi rfl rfl) ?_ | refine zk rfl rfl rfl (fun hg => zq rfl rfl) ?_ | refine zk rfl rfl rfl (fun hg => zI rfl rfl) ?_ | refine zk rfl rfl rfl (fun hg => zM rfl rfl) ?_ | refine zk (x := .pub (.tup [])) rfl rfl rfl (fun hg => absurd hg (by decide)) ?_
        first | refine zk rfl rfl rfl (fun hg => zi rfl rfl) ?_ | refine zk rfl rfl rfl (fun hg => zq rfl rfl) ?_ | refine zk rfl rfl rfl (fun hg => zI rfl rfl) ?_ | refine zk rfl rfl rfl (fun hg => zM rfl rfl) ?_ | refine zk (x := .pub (.tup [])) rfl rfl rfl (fun hg => absurd hg (by decide)) ?_
        first | refine zk rfl rfl rfl (fun hg => zy (av := [_, _]) rfl ⟨(by first | exact (if_pos hg) | exact rfl), (by first | exact (if_pos hg) | exact rfl), trivial⟩ (zxk _ A2 (by omega) rfl)) ?_ | refine zk rfl rfl rfl (fun hg => zy (av := [_, _]) rfl ⟨(by first | exact rfl | exact rfl), (by first | exact rfl | exact rfl), trivial⟩ (zxk _ A2 (by omega) rfl)) ?_ | refine zk (x := .pub (.tup [])) rfl rfl rfl (fun hg => absurd hg (by decide)) ?_
        first | refine zg rfl rfl (qI rfl rfl rfl rfl) ?_ | refine zg rfl rfl (qU rfl rfl rfl rfl) ?_ | refine zg rfl rfl (zU rfl rfl (fun _ => rfl) (fun _ => rfl)) ?_ | refine zg rfl rfl (zU rfl rfl (fun _ => rfl) (fun h => absurd h (by decide))) ?_ | refine zg rfl rfl (zU rfl rfl (fun h => absurd h (by decide)) (fun _ => rfl)) ?_
        first | refine zg rfl rfl (zi rfl rfl) ?_ | refine zg rfl rfl (zq rfl rfl) ?_ | refine zg rfl rfl (zI rfl rfl) ?_ | refine zg rfl rfl (zM rfl rfl) ?_
        first | refine zk rfl rfl rfl (fun hg => zy (av := []) rfl trivial hkn) ?_ | refine zk (x := .pub (.tup [])) rfl rfl rfl (fun hg => absurd hg (by decide)) ?_
        first | refine zg rfl rfl (qI rfl rfl rfl rfl) ?_ | refine zg rfl rfl (qU rfl rfl rfl rfl) ?_ | refine zg rfl rfl (zU rfl rfl (fun _ => rfl) (fun _ => rfl)) ?_ | refine zg rfl rfl (zU rfl rfl (fun _ => rfl) (fun h => absurd h (by decide))) ?_ | refine zg rfl rfl (zU rfl rfl (fun h => absurd h (by decide)) (fun _ => rfl)) ?_
        first | refine zg rfl rfl (zn rfl rfl) ?_ | refine zg rfl rfl (zW rfl rfl) ?_ | refine zg rfl rfl (qo rfl rfl) ?_ | refine zg rfl rfl (qV rfl rfl) ?_
        refine zo (zf (zP ?_))
        exact ⟨.inr rfl, (by first | exact AVle.refl _ | (exfalso; simp at h7; done) | exact AVle.of (by simp [(hyes hb2).2]))⟩
      ·
       have hb2 : b2 = true := by simpa using h6
       have hx2 := (hyes hb2).1
       subst hx2
       refine zC (zf (zl (zl (zh ?_))))
       first | refine zg rfl rfl (zi rfl rfl) ?_ | refine zg rfl rfl (zq rfl rfl) ?_ | refine zg rfl rfl (zI rfl rfl) ?_ | refine zg rfl rfl (zM rfl rfl) ?_
       refine zg rfl rfl (vg rfl rfl rfl) (zo (zf (zx rfl (fun h7 => ?_) (fun h7 => ?_))))
       ·
        refine zl (zh ?_)
        first | refine zg rfl rfl (zi rfl rfl) ?_ | refine zg rfl rfl (zq rfl rfl) ?_ | refine zg rfl rfl (zI rfl rfl) ?_ | refine zg rfl rfl (zM rfl rfl) ?_
        first | refine zg rfl rfl (zi rfl rfl) ?_ | refine zg rfl rfl (zq rfl rfl) ?_ | refine zg rfl rfl (zI rfl rfl) ?_ | refine zg rfl rfl (zM rfl rfl) ?_
        refine zg rfl rfl (qJ rfl rfl rfl) ?_
        first | refine zg rfl rfl (zi rfl rfl) ?_ | refine zg rfl rfl (zq rfl rfl) ?_ | refine zg rfl rfl (zI rfl rfl) ?_ | refine zg rfl rfl (zM rfl rfl) ?_
        first | refine zk rfl rfl rfl (fun hg => zi rfl rfl) ?_ | refine zk rfl rfl rfl (fun hg => zq rfl rfl) ?_ | refine zk rfl rfl rfl (fun hg => zI rfl rfl) ?_ | refine zk rfl rfl rfl (fun hg => zM rfl rfl) ?_ | refine zk (x := .pub (.tup [])) rfl rfl rfl (fun hg => absurd hg (by decide)) ?_
        first | refine zk rfl rfl rfl (fun hg => zuz rfl (by first | exact rfl | exact if_pos hg) Tryz.underlying23) ?_ | refine zk rfl rfl rfl (fun hg => zuz rfl rfl Tryz.underlying23) ?_ | refine zk (x := .pub (.tup [])) rfl rfl rfl (fun hg => absurd hg (by decide)) ?_
        first | refine zk rfl rfl rfl (fun hg => qJ rfl (by first | exact rfl | exact if_pos hg) rfl) ?_ | refine zk rfl rfl rfl (fun hg => qJ rfl rfl rfl) ?_ | refine zk (x := .pub (.tup [])) rfl rfl rfl (fun hg => absurd hg (by decide)) ?_
        first | refine zg rfl rfl (qI rfl rfl rfl rfl) ?_ | refine zg rfl rfl (qU rfl rfl rfl rfl) ?_ | refine zg rfl rfl (zU rfl rfl (fun _ => rfl) (fun _ => rfl)) ?_ | refine zg rfl rfl (zU rfl rfl (fun _ => rfl) (fun h => absurd h (by decide))) ?_ | refine zg rfl rfl (zU rfl rfl (fun h => absurd h (by decide)) (fun _ => rfl)) ?_
        first | refine zg rfl rfl (zi rfl rfl) ?_ | refine zg rfl rfl (zq rfl rfl) ?_ | refine zg rfl rfl (zI rfl rfl) ?_ | refine zg rfl rfl (zM rfl rfl) ?_
        first | refine zk rfl rfl rfl (fun hg => zy (av := []) rfl trivial hkn) ?_ | refine zk (x := .pub (.tup [])) rfl rfl rfl (fun hg => absurd hg (by decide)) ?_
        first | refine zg rfl rfl (qI rfl rfl rfl rfl) ?_ | refine zg rfl rfl (qU rfl rfl rfl rfl) ?_ | refine zg rfl rfl (zU rfl rfl (fun _ => rfl) (fun _ => rfl)) ?_ | refine zg rfl rfl (zU rfl rfl (fun _ => rfl) (fun h => absurd h (by decide))) ?_ | refine zg rfl rfl (zU rfl rfl (fun h => absurd h (by decide)) (fun _ => rfl)) ?_
        first | refine zg rfl rfl (zn rfl rfl) ?_ | refine zg rfl rfl (zW rfl rfl) ?_ | refine zg rfl rfl (qo rfl rfl) ?_ | refine zg rfl rfl (qV rfl rfl) ?_
        refine zo (zf (zP (zQ ?_)))
        exact ⟨.inr rfl, (by first | exact AVle.refl _ | (exfalso; simp at h7; done) | exact AVle.of (by simp [(hyes hb2).2]))⟩
       ·
        refine zC (zf (zl (zh ?_)))
        first | refine zg rfl rfl (zi rfl rfl) ?_ | refine zg rfl rfl (zq rfl rfl) ?_ | refine zg rfl rfl (zI rfl rfl) ?_ | refine zg rfl rfl (zM rfl rfl) ?_
        refine zg rfl rfl (qJ rfl rfl rfl) ?_
        first | refine zg rfl rfl (zi rfl rfl) ?_ | refine zg rfl rfl (zq rfl rfl) ?_ | refine zg rfl rfl (zI rfl rfl) ?_ | refine zg rfl rfl (zM rfl rfl) ?_
        first | refine zk rfl rfl rfl (fun hg => zi rfl rfl) ?_ | refine zk rfl rfl rfl (fun hg => zq rfl rfl) ?_ | refine zk rfl rfl rfl (fun hg => zI rfl rfl) ?_ | refine zk rfl rfl rfl (fun hg => zM rfl rfl) ?_ | refine zk (x := .pub (.tup [])) rfl rfl rfl (fun hg => absurd hg (by decide)) ?_
        first | refine zk rfl rfl rfl (fun hg => zi rfl rfl) ?_ | refine zk rfl rfl rfl (fun hg => zq rfl rfl) ?_ | refine zk rfl rfl rfl (fun hg => zI rfl rfl) ?_ | refine zk rfl rfl rfl (fun hg => zM rfl rfl) ?_ | refine zk (x := .pub (.tup [])) rfl rfl rfl (fun hg => absurd hg (by decide)) ?_
        first | refine zk rfl rfl rfl (fun hg => zy (av := [_, _]) rfl ⟨(by first | exact (if_pos hg) | exact rfl), (by first | exact (if_pos hg) | exact rfl), trivial⟩ (zxk _ A2 (by omega) rfl)) ?_ | refine zk rfl rfl rfl (fun hg => zy (av := [_, _]) rfl ⟨(by first | exact rfl | exact rfl), (by first | exact rfl | exact rfl), trivial⟩ (zxk _ A2 (by omega) rfl)) ?_ | refine zk (x := .pub (.tup [])) rfl rfl rfl (fun hg => absurd hg (by decide)) ?_
        first | refine zg rfl rfl (qI rfl rfl rfl rfl) ?_ | refine zg rfl rfl (qU rfl rfl rfl rfl) ?_ | refine zg rfl rfl (zU rfl rfl (fun _ => rfl) (fun _ => rfl)) ?_ | refine zg rfl rfl (zU rfl rfl (fun _ => rfl) (fun h => absurd h (by decide))) ?_ | refine zg rfl rfl (zU rfl rfl (fun h => absurd h (by decide)) (fun _ => rfl)) ?_
        first | refine zg rfl rfl (zi rfl rfl) ?_ | refine zg rfl rfl (zq rfl rfl) ?_ | refine zg rfl rfl (zI rfl rfl) ?_ | refine zg rfl rfl (zM rfl rfl) ?_
        first | refine zk rfl rfl rfl (fun hg => zy (av := []) rfl trivial hkn) ?_ | refine zk (x := .pub (.tup [])) rfl rfl rfl (fun hg => absurd hg (by decide)) ?_
        first | refine zg rfl rfl (qI rfl rfl rfl rfl) ?_ | refine zg rfl rfl (qU rfl rfl rfl rfl) ?_ | refine zg rfl rfl (zU rfl rfl (fun _ => rfl) (fun _ => rfl)) ?_ | refine zg rfl rfl (zU rfl rfl (fun _ => rfl) (fun h => absurd h (by decide))) ?_ | refine zg rfl rfl (zU rfl rfl (fun h => absurd h (by decide)) (fun _ => rfl)) ?_
        first | refine zg rfl rfl (zn rfl rfl) ?_ | refine zg rfl rfl (zW rfl rfl) ?_ | refine zg rfl rfl (qo rfl rfl) ?_ | refine zg rfl rfl (qV rfl rfl) ?_
        refine zo (zf (zP ?_))
        exact ⟨.inr rfl, (by first | exact AVle.refl _ | (exfalso; simp at h7; done) | exact AVle.of (by simp [(hyes hb2).2]))⟩
end Go.Av
end
section
namespace Go.Av
open Go.Proofs
set_option maxRecDepth 100000
variable {G : Glob}
theorem zAH {c : Cod} {bk : List Ent} {ts : LS} (hne : ts ≠ []) : (rdU c bk ts).2 = zwN c bk ts /\ (zwN c bk ts = true -> (rdU c bk ts).1 = zvx bk ts) := by
 unfold rdU
 rw [if_neg hne]
 have hu : zwN c bk ts = (ts.dropLast.all (zvZ bk) && wS c (zvx bk ts) && decide (ts.getLast? = some (chk (zvx bk ts)).chs)) := by
  unfold zwN; rw [decide_eq_true hne, Bool.true_and]
 cases h1 : ts.dropLast.all (zvZ bk) with
 | false => rw [hu, h1]; simp
 | true =>
  cases h2 : wS c (zvx bk ts) with
  | false => rw [hu, h1, h2]; simp
  | true => rw [hu, h1, h2]; simp
theorem f16 (hkn : KN G) (c : Cod) (bk : List Ent) (ms : List Int) (ts : LS) (hw : ∀ e ∈ bk, e.word.length <= 9223372036854775807) : ACall Tryz.prog G 16 [.agg (qK c), eBk bk, zO ms, jD ts] (.v (.bool true)) := by
 by_cases hsc : y7 c = true /\ bk.length <= 15 /\ ms.length <= 6 /\ zjc ts = true
 ·
  obtain ⟨hs, h15, h6, hb⟩ := hsc
  have hcs := zvI hs
  have htl := zwh hb
  obtain ⟨P, e, hP, he, c70⟩ : ∃ (P : LS) (e : Int), P = (if (jA c && zuB bk && wS c ms) = true then zu0 bk ms else []) /\ e = (if (jA c && zuB bk && wS c ms) = true then 0 else 2) /\ ACall Tryz.prog G 70 [.agg (qK c), eBk bk, zO ms] (.tup [jD P, ei e]) := by
   cases ho : (jA c && zuB bk && wS c ms) with
   | true =>
    have hcm : jA c = true /\ wS c ms = true := by simp only [Bool.and_eq_true] at ho; exact ⟨ho.1.1, ho.2⟩
    exact ⟨zu0 bk ms, 0, by simp, by simp, zBt c bk ms hcs (by omega) (by omega) (zlx hcm.1 hcm.2) ho⟩
   | false => exact ⟨[], 2, by simp, by simp, zAb c bk ms hcs (by omega) (by omega) ho⟩
  by_cases hl : 8 < ts.length
  ·
   exact zzE hkn c bk ms ts hw hs h15 h6 hb rfl rfl hP he c70 hl
  ·
   cases hg : (jA c && zuB bk) with
   | false => exact zAP hkn c bk ms ts hw hs h15 h6 hb rfl rfl hP he c70 (by omega) hg
   | true =>
    have hg2 := hg
    simp only [Bool.and_eq_true] at hg2
    by_cases hne : ts = []
    ·
     exact zyo hkn c bk ms ts hw hs h15 h6 hb rfl rfl hP he c70 (by omega) hg (A := []) (A2 := []) (e2 := 4) (b2 := false) (zAO c bk ts hcs (by omega) hg hne) (zAD c bk ts hcs (by omega) hg2.2 (by omega) (by unfold rdU; rw [if_pos hne]) hne) (by simp) (fun h => by cases h) (fun _ => ⟨rfl, rfl⟩)
    ·
     obtain ⟨h1, h2⟩ := zAH (c := c) (bk := bk) hne
     have hA : (zvx bk ts).length <= 1000 := by
      have h9 := zuZ bk ts.dropLast
      rw [List.length_dropLast] at h9
      unfold zvx; omega
     refine zyo hkn c bk ms ts hw hs h15 h6 hb rfl rfl hP he c70 (by omega) hg (A := if zwN c bk ts = true then zvx bk ts else []) (A2 := (rdU c bk ts).1) (e2 := if zwN c bk ts = true then 0 else 4) (b2 := (rdU c bk ts).2) (zAn c bk ts hcs (by omega) hg2.2 hg2.1 (by omega) hne rfl) (zAs c bk ts hcs (by omega) hg2.2 (by omega) rfl hne) (by split; exact hA; simp) (fun h => ?_) (fun h => ?_)
     ·
      rw [h1] at h
      rw [if_pos h, if_pos h]; exact ⟨rfl, (h2 h).symm⟩
     ·
      rw [h1] at h
      rw [if_neg (by rw [h]; decide), if_neg (by rw [h]; decide)]; exact ⟨rfl, rfl⟩
 ·
  exact zAe hkn c bk ms ts hw rfl rfl hsc
end Go.Av
end
